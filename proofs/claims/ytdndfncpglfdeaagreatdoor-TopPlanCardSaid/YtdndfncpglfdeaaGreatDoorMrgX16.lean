/- RD RE SC SD SE UD UE: texts laid together. -/
import Derived.Test.YtdndfncpglfdeaaGreatDoorMrgX15
import Derived.Test.YtdndfncpglfdeaaGreatDoorMrgX12
import Derived.Test.YtdndfncpglfdeaaGreatDoorMrgG2
import Derived.Test.YtdndfncpglfdeaaGreatDoorMrgX11
import Derived.Test.YtdndfncpglfdeaaGreatDoorMrgS
set_option maxRecDepth 100000
set_option maxHeartbeats 64000000

namespace Go.Proofs.YtdndfncpglfdeaaGreatDoor.Tp
set_option linter.unusedVariables false
set_option linter.unusedSimpArgs false
open Go.RowKit Go.Proofs.YtdndfncpglfdeaaGreatDoor.Ev
open Go.Proofs.YtdndfncpglfdeaaGreatDoor.Cu (I LI LS gw ce)
open Go.Proofs.YtdndfncpglfdeaaGreatDoor.Ge (an aG)
variable {gl:List (Nat×List CV)}
theorem spans_con (p:List Prt) (hL:p.length≤100000):bm Tryz.prog gl 74 [LPt p] (LS (p.map Prod.fst)):=by
 refine ao Tryz.func74 rfl (by kernel_rfl) rfl ?_
 simp only [Tryz.ntmps74,Tryz.results74,am,ofC,aZ,List.map]
 repeat' (first
 | (refine zs ?_)
 | fail
 )
 refine bo 3 35 2 rfl rfl ?_
 refine au (G:=Nat) (fun (j:Nat)=>j≤p.length) (fun (j:Nat)=>p.length - j) (fun (j:Nat)=>[(0,.c (LPt p)),(3,.vec 0 j),(4,A j)]) (fun (j:Nat)=>[(0,some (.vec 35 2 (((p.take j).map Prod.fst).flatMap gw)))]) 1 0 ?_ (by refine ak rfl ?_ ?_<;>repeat (first|exact ai|exact ac|refine ae rfl rfl ?_|refine ab rfl rfl rfl ?_)) rfl ?_
 ·exact Nat.zero_le _
 rintro j hI
 try dsimp only at hI
 try dsimp only
 by_cases hj:j < p.length
 ·have l1:((p.take j).map Prod.fst).length=j:=by rw [List.length_map,List.length_take];omega
  repeat' (first
 | ((with_reducible apply (dq (enc:=gw) (x0:=(p[j].1.1,p[j].1.2))));exact rfl;exact rfl;exact inferInstance;exact l1;(iterate 3 exact rfl);exact (by omega);exact (by omega);exact rfl)
 | (((with_reducible apply aa);exact rfl)<;>intro hg<;>(first|(exact absurd hg (by decide))|((try simp only [qz,ge_iff_le,List.cons.injEq,and_true] at hg);first|(exact absurd trivial hg)|(exfalso;omega)|(have hT:True:=hg;clear hT hg)|skip)))
 | (refine zs ?_)
 | fail
 )
  rw [show (p.take j).map Prod.fst++[(p[j].1.1,p[j].1.2)]=(p.take (j+1)).map Prod.fst from by rw [List.take_succ_eq_append_getElem hj,List.map_append];rfl]
  refine ⟨j+1,?_,?_,by refine ak rfl ?_ ?_<;>repeat (first|exact ai|exact ac|refine ae rfl rfl ?_|refine ab rfl rfl rfl ?_)⟩
  ·show p.length - (j+1) < p.length - j;omega
  ·show j+1≤p.length;omega
 ·obtain rfl:j=p.length:=by omega
  rw [List.take_length]
  repeat' (first
 | (((with_reducible apply aa);exact rfl)<;>intro hg<;>(first|(exact absurd hg (by decide))|((try simp only [qz,ge_iff_le,List.cons.injEq,and_true] at hg);first|(exact absurd trivial hg)|(exfalso;omega)|(have hT:True:=hg;clear hT hg)|skip)))
 | (refine zs ?_)
 | fail
 )
  all_goals exact cL (.tmp rfl (bx rfl (by rw [av EncL.len,List.length_map])))
def dA (N:List Nd) (x:Prt):List Nd:=(N.take x.2.2.toNat).drop x.2.1.toNat
def okPrt (N:List Nd) (x:Prt):Prop:=0≤x.2.1∧x.2.1≤x.2.2∧x.2.2≤N.length∧smallS x.1
def sameS (N:List Nd) (k ax:Int) (W:an) (p:List Prt):Bool :=
 decide ((iX k ax W.2 W.1 false ((p.map Prod.fst).zip (p.map (dA N))) []).2=0) && decide (N=(iX k ax W.2 W.1 false ((p.map Prod.fst).zip (p.map (dA N))) []).1)
theorem rowG_len {k ax B:Int}:∀ (ps:List (an×List Nd)) (e:Int) (en:Bool) (out:List Nd),(iX k ax B e en ps out).1.length≤127
 | [],e,en,out=>by
  unfold iX
  generalize (if en=true then _ else _:List Nd)=o
  by_cases h:127 < o.length
  ·simp [h]
  ·simp only [h,if_false,if_true,ite_true,ite_false];omega
 | x::ps,e,en,out=>by
  unfold iX
  split
  ·simp
  ·split
   ·simp
   ·split
    ·simp
    ·exact rowG_len ps _ _ _
theorem same_con (N:List Nd) (R:aG) (ax k:Int) (p:List Prt) (hN:N.length≤127) (hax:ax=2∨ax=3) (hk:0≤k∧k≤20) (hX:aJ R.1) (hY:aJ R.2) (hp:p.length≤1000) (hok:∀ x∈p,okPrt N x) :
  bm Tryz.prog gl 33 [fY N,dx R,I ax,I k,LPt p] (BO (sameS N k ax (aD R ax) p)):=by
 have c1:=spans_con (gl:=gl) p (by omega)
 have c2:=rrow_con (gl:=gl) R ax k hax hk hX hY (p.map Prod.fst) (p.map (dA N)) (by simp) (by simp;omega) (fun x hx=>by
  obtain ⟨y,hy,rfl⟩:=List.mem_map.1 hx
  exact (hok y hy).2.2.2) (fun x hx=>by
  obtain ⟨y,hy,rfl⟩:=List.mem_map.1 hx
  unfold dA;rw [List.length_drop,List.length_take];omega)
 have hrl:=rowG_len (k:=k) (ax:=ax) (B:=(aD R ax).2) ((p.map Prod.fst).zip (p.map (dA N))) (aD R ax).1 false []
 unfold sameS
 generalize iX k ax (aD R ax).2 (aD R ax).1 false ((p.map Prod.fst).zip (p.map (dA N))) []=RR at *
 obtain ⟨M,er⟩:=RR
 dsimp only at *
 have c3:=samenodes_con (gl:=gl) N M (by omega) (by omega)
 obtain ⟨⟨X1,X2⟩,⟨Y1,Y2⟩⟩:=R
 refine ao Tryz.func33 rfl (by kernel_rfl) rfl ?_
 simp only [Tryz.ntmps33,Tryz.results33,am,ofC,aZ,List.map]
 repeat' (first
 | (refine zs ?_)
 | fail
 )
 refine bo 11 31 1 rfl rfl ?_
 refine au (G:=Nat) (fun (j:Nat)=>j≤p.length) (fun (j:Nat)=>p.length - j) (fun (j:Nat)=>[(0,.c (fY N)),(2,A ax),(3,A k),(4,.c (LPt p)),(6,.ptr 0 0),(11,.vec 1 j),(12,A j)]) (fun (j:Nat)=>[(1,some (.vec 31 1 (((p.take j).map (dA N)).flatMap ndsC))),(0,some (.cells 37 [A X1,A X2,A Y1,A Y2]))]) 2 0 ?_ (by refine ak rfl ?_ ?_<;>repeat (first|exact ai|exact ac|refine ae rfl rfl ?_|refine ab rfl rfl rfl ?_)) rfl ?_
 ·exact Nat.zero_le _
 rintro j hI
 try dsimp only at hI
 try dsimp only
 by_cases hj:j < p.length
 ·have l1:((p.take j).map (dA N)).length=j:=by rw [List.length_map,List.length_take];omega
  obtain ⟨o1,o2,o3,o4⟩:=hok _ (List.getElem_mem hj)
  repeat' (first
 | (refine aL (id:=5) 14 ?_ ?_;(kernel_rfl);(simp only [List.take_succ_cons,List.take_zero,List.drop_succ_cons,List.drop_zero]))
 | ((with_reducible apply bg);iterate 7 exact rfl)
 | ((with_reducible apply (r_slice_f p[j].2.1.toNat p[j].2.2.toNat));exact rfl;exact inferInstance;exact rfl;exact rfl;exact (Int.toNat_of_nonneg o1).symm;exact (Int.toNat_of_nonneg (by omega)).symm;omega;omega;exact rfl)
 | ((with_reducible apply (aH (enc:=ndsC) (l2:=[(dA N p[j])])));exact rfl;exact rfl;exact inferInstance;exact l1;exact rfl;exact (by show _+1 < _;omega);exact (by show (_+1) * _≤_;omega);exact rfl)
 | (((with_reducible apply aa);exact rfl)<;>intro hg<;>(first|(exact absurd hg (by decide))|((try simp only [qz,ge_iff_le,List.cons.injEq,and_true] at hg);first|(exact absurd trivial hg)|(exfalso;omega)|(have hT:True:=hg;clear hT hg)|skip)))
 | (refine zs ?_)
 | fail
 )
  rw [show (p.take j).map (dA N)++[dA N p[j]]=(p.take (j+1)).map (dA N) from by rw [List.take_succ_eq_append_getElem hj,List.map_append];rfl]
  refine ⟨j+1,?_,?_,by refine ak rfl ?_ ?_<;>repeat (first|exact ai|exact ac|refine ae rfl rfl ?_|refine ab rfl rfl rfl ?_)⟩
  ·show p.length - (j+1) < p.length - j;omega
  ·show j+1≤p.length;omega
 ·obtain rfl:j=p.length:=by omega
  rw [List.take_length]
  have l1:(p.map (dA N)).length=p.length:=List.length_map ..
  by_cases he:er=0
  ·rw [decide_eq_true he,Bool.true_and]
   generalize decide (N=M)=bb at *
   repeat' (first
 | ((with_reducible apply (ck 11));exact rfl;exact rfl;exact (by rw [av EncL.len,l1]))
 | (refine aL (id:=6) 11 ?_ ?_;(kernel_rfl);(simp only [List.take_succ_cons,List.take_zero,List.drop_succ_cons,List.drop_zero]))
 | ((with_reducible apply (ah (f:=74)));exact rfl;exact rfl;exact c1;exact rfl;exact rfl)
 | ((with_reducible apply (ah (f:=73)));exact rfl;exact rfl;exact c2;exact rfl;exact rfl)
 | ((with_reducible apply (ah (f:=75)));exact rfl;exact rfl;exact c3;exact rfl;exact rfl)
 | ((first|((with_reducible apply aj);iterate 4 exact rfl)|((with_reducible apply aa);exact rfl))<;>intro hg<;>(first|(exact absurd hg (by decide))|((try simp only [qz,ge_iff_le,List.cons.injEq,and_true] at hg);first|(exact absurd trivial hg)|(exfalso;omega)|(have hT:True:=hg;clear hT hg)|skip)))
 | (refine zs ?_)
 | fail
 )
   all_goals exact aK rfl rfl
  ·rw [decide_eq_false he,Bool.false_and]
   repeat' (first
 | ((with_reducible apply (ck 11));exact rfl;exact rfl;exact (by rw [av EncL.len,l1]))
 | (refine aL (id:=6) 11 ?_ ?_;(kernel_rfl);(simp only [List.take_succ_cons,List.take_zero,List.drop_succ_cons,List.drop_zero]))
 | ((with_reducible apply (ah (f:=74)));exact rfl;exact rfl;exact c1;exact rfl;exact rfl)
 | ((with_reducible apply (ah (f:=73)));exact rfl;exact rfl;exact c2;exact rfl;exact rfl)
 | ((first|((with_reducible apply aj);iterate 4 exact rfl)|((with_reducible apply aa);exact rfl))<;>intro hg<;>(first|(exact absurd hg (by decide))|((try simp only [qz,ge_iff_le,List.cons.injEq,and_true] at hg);first|(exact absurd trivial hg)|(exfalso;omega)|(have hT:True:=hg;clear hT hg)|skip)))
 | (refine zs ?_)
 | fail
 )
   all_goals exact aK rfl rfl
end Go.Proofs.YtdndfncpglfdeaaGreatDoor.Tp

namespace Go.Proofs.YtdndfncpglfdeaaGreatDoor.Tp
set_option linter.unusedVariables false
set_option linter.unusedSimpArgs false
open Go.RowKit Go.Proofs.YtdndfncpglfdeaaGreatDoor.Ev
open Go.Proofs.YtdndfncpglfdeaaGreatDoor.Ge (an aG)
theorem unG_ok (N:List Nd) (A0 B ax k:Int) (hA:-600≤A0) (hB:B≤600) (hk:0≤k) :
  ∀ (f i:Nat) (e:Int) (due:Bool) (out R:List Prt),unG N B ax k f i e due out=(R,true)→A0≤e→e≤B→(∀ x∈out,okPrt N x∧x.2.1 < x.2.2)→out.length≤i→(∀ x∈R,okPrt N x∧x.2.1 < x.2.2)∧R.length≤N.length
 | 0,_,_,_,_,_,h,_,_,_,_=>by unfold unG at h;cases h
 | f+1,i,e,due,out,R,h,h1,h2,ho,hl=>by
  unfold unG at h
  by_cases c1:i < N.length
  ·rw [dif_pos c1] at h
   by_cases c2:N[i].1=0
   ·rw [if_pos c2] at h
    obtain ⟨rfl,-⟩:=Prod.mk.inj h
    exact ⟨ho,by omega⟩
   ·rw [if_neg c2] at h
    by_cases c3:N[i].1≠ax
    ·rw [if_pos c3] at h
     obtain ⟨rfl,h3⟩:=Prod.mk.inj h
     have h3:=of_decide_eq_true h3
     refine ⟨fun x hx=>?_,by rw [List.length_append,List.length_singleton];omega⟩
     rcases List.mem_append.1 hx with hx|hx
     ·exact ho x hx
     ·obtain rfl:=List.mem_singleton.1 hx
      refine ⟨⟨?_,?_,?_,?_,?_,?_,?_⟩,?_⟩<;>dsimp only<;>omega
    ·rw [if_neg c3] at h
     by_cases c4:N[i].2≤e∨B≤N[i].2∨N.length≤i+1
     ·rw [if_pos c4] at h;cases h
     ·rw [if_neg c4] at h
      by_cases c5:i+1 < N.length
      ·rw [dif_pos c5] at h
       by_cases c6:N[i+1].1=0
       ·rw [if_pos c6] at h
        cases due with
        | true=>rw [if_pos rfl] at h;cases h
        | false =>
         rw [if_neg (by decide)] at h
         exact unG_ok N A0 B ax k hA hB hk f _ _ _ _ R h (by omega) (by omega) ho (by omega)
       ·rw [if_neg c6] at h
        by_cases c7:cM N 1 (i+1) < 0
        ·rw [if_pos c7] at h;cases h
        ·rw [if_neg c7] at h
         have hb:=treeR_bd N N.length 1 (i+1) (by omega) (by omega)
         rw [if_neg (by decide)] at hb
         refine unG_ok N A0 B ax k hA hB hk f _ _ _ _ R h (by omega) (by omega) (fun x hx=>?_) (by rw [List.length_append,List.length_singleton];omega)
         rcases List.mem_append.1 hx with hx|hx
         ·exact ho x hx
         ·obtain rfl:=List.mem_singleton.1 hx
          refine ⟨⟨?_,?_,?_,?_,?_,?_,?_⟩,?_⟩<;>dsimp only<;>omega
      ·rw [dif_neg c5] at h;cases h
  ·rw [dif_neg c1] at h;cases h
def bdPrt (c:List Pr) (N:List Nd) (X Y:an) (g:Int) (x:Prt):Bool :=
 match N[x.2.1.toNat]? with
 | none=>false
 | some n=>decide (x.2.2=x.2.1+1) && decide (n.1=1) && decide ((x.1.1 - X.1).tmod g=0) && decide ((x.1.2 - x.1.1,n.2)∈cB c (Y.2 - Y.1))
def df (c:List Pr) (N:List Nd) (X Y:an) (s:Sw):Bool :=
 let u:=unG N X.2 2 s.kerf (N.length+1) 0 X.1 false []
 u.2 && !u.1.isEmpty && sameS N s.kerf 2 X u.1 && u.1.all (bdPrt c N X Y s.pitch)
def iL (c:List Pr) (N:List Nd) (X Y:an) (s:Sw):Bool :=
 let u:=unG N Y.2 3 s.kerf (N.length+1) 0 Y.1 false []
 u.2 && sameS N s.kerf 3 Y u.1 && u.1.all (fun x=>decide ((x.1.1 - Y.1).tmod s.pitch=0) && decide (x.1.2 - x.1.1∈rhN c c.length) && df c (dA N x) X x.1 s)
end Go.Proofs.YtdndfncpglfdeaaGreatDoor.Tp

namespace Go.Proofs.YtdndfncpglfdeaaGreatDoor.Tp
set_option linter.unusedVariables false
set_option linter.unusedSimpArgs false
open Go.RowKit Go.Proofs.YtdndfncpglfdeaaGreatDoor.Ev
open Go.Proofs.YtdndfncpglfdeaaGreatDoor.Ge (an aG)
def KindT:Tr→Prop
 | .leaf n=>n.1=0∨n.1=1
 | .rip ax _ s t=>(ax=2∨ax=3)∧KindT s∧KindT t
def headK:Tr→Int
 | .leaf n=>n.1
 | .rip ax _ _ _=>ax
theorem kind_of {k:Int} {B:aG→Int→Prop}:∀ {t:Tr} {r:aG},OkG k B r t→KindT t
 | .leaf n,_,h=>by
  rcases h with rfl|⟨h,_⟩
  ·exact .inl rfl
  ·exact .inr h
 | .rip _ _ _ _,_,⟨h1,_,_,h4,h5⟩=>⟨h1,kind_of h4,kind_of h5⟩
theorem head_cons:∀ (t:Tr),∃ a R,aq t=(headK t,a)::R
 | .leaf n=>⟨n.2,[],rfl⟩
 | .rip _ a s t=>⟨a,aq s++aq t,rfl⟩
theorem treeR_T (N:List Nd):∀ (t:Tr) (o j:Nat) (R:List Nd),KindT t→N.drop j=aq t++R→cM N (o+1) j=cM N o (j+(aq t).length)
 | .leaf n,o,j,R,hk,hd=>by
  obtain ⟨hi,e,_⟩:=bk (x:=n) (m:=R) hd
  have hk:n.1=0∨n.1=1:=hk
  rw [ic N o j hi,e,if_neg (by omega)];rfl
 | .rip ax a s t,o,j,R,⟨h1,h2,h3⟩,hd=>by
  obtain ⟨hi,e,hd2⟩:=bk (x:=(ax,a)) (m:=aq s++aq t++R) hd
  rw [ic N o j hi,e,if_pos h1]
  rw [treeR_T N s (o+1) (j+1) (aq t++R) h2 (by rw [hd2,List.append_assoc])]
  have hd3:N.drop (j+1+(aq s).length)=aq t++R:=by
   rw [← List.drop_drop,hd2,List.append_assoc,List.drop_left]
  rw [treeR_T N t o _ R h3 hd3]
  congr 1
  simp only [aq,List.length_cons,List.length_append];omega
theorem treeR_one {N:List Nd} {t:Tr} {j:Nat} {R:List Nd} (hk:KindT t) (hd:N.drop j=aq t++R):cM N 1 j=((j+(aq t).length:Nat):Int):=by
 rw [treeR_T N t 0 j R hk hd,treeR_0]
theorem prtN_of {N M R:List Nd} {j:Nat} {sp:an} (hd:N.drop j=M++R):dA N (sp,(j:Int),((j+M.length:Nat):Int))=M:=by
 unfold dA
 dsimp only
 rw [Int.toNat_natCast,Int.toNat_natCast,List.drop_take,hd,show j+M.length - j=M.length by omega,List.take_left]
theorem unG_row (N:List Nd) (B ax k:Int) (hax:ax=2∨ax=3) (hk:0≤k) :
  ∀ (ps:List (an×Tr)) (e:Int) (j f:Nat) (out:List Prt),eN k B e ps→e≤B→N.drop j=aq (bM k ax B e ps)→(∀ x∈ps,KindT x.2∧headK x.2≠ax∧headK x.2≠0)→N.length - j < f →
   ∃ P,unG N B ax k f j e false out=(out++P,true)∧P.map Prod.fst=ps.map Prod.fst∧P.map (dA N)=ps.map (fun x=>aq x.2)
 | [],e,j,f,out,_,_,hd,_,hf=>by
  obtain ⟨f,rfl⟩:∃ g,f=g+1:=⟨f - 1,by omega⟩
  obtain ⟨hi,h1,h2⟩:=bk (x:=((0:Int),(0:Int))) (m:=[]) hd
  have hl:j+1=N.length:=by
   have:=congrArg List.length h2
   rw [List.length_drop,List.length_nil] at this;omega
  refine ⟨[],?_,rfl,rfl⟩
  unfold unG
  rw [dif_pos hi,h1,if_pos rfl,List.append_nil,decide_eq_true hl];rfl
 | (sp,t)::ps,e,j,f,out,⟨g1,g2,g3,g4,g5⟩,he,hd,hx,hf=>by
  dsimp only at g1 g2 g3 g4 g5
  obtain ⟨k1,k2,k3⟩:=hx _ (List.mem_cons_self ..)
  dsimp only at k1 k2 k3
  obtain ⟨ha,hR,hh⟩:=head_cons t
  have body:∀ (j f:Nat) (due:Bool),N.drop j=aq (if sp.2 < B then .rip ax sp.2 t (bM k ax B (min (sp.2+k) B) ps) else t)→N.length - j < f →
    ∃ P,unG N B ax k f j sp.1 due out=(out++P,true)∧P.map Prod.fst=sp::ps.map Prod.fst∧P.map (dA N)=aq t::ps.map (fun x=>aq x.2):=by
   intro j1 f1 due hd1 hf1
   by_cases hlt:sp.2 < B
   ·rw [if_pos hlt] at hd1
    obtain ⟨f1,rfl⟩:∃ g,f1=g+1:=⟨f1 - 1,by omega⟩
    obtain ⟨hi,h1,h2⟩:=bk (x:=(ax,sp.2)) (m:=aq t++aq (bM k ax B (min (sp.2+k) B) ps)) hd1
    obtain ⟨hi2,h3,_⟩:=bk (x:=(headK t,ha)) (m:=hR++aq (bM k ax B (min (sp.2+k) B) ps)) (by rw [h2,hh];rfl)
    have ht:=treeR_one k1 h2
    have hd3:N.drop (j1+1+(aq t).length)=aq (bM k ax B (min (sp.2+k) B) ps):=by
     rw [← List.drop_drop,h2,List.drop_left]
    obtain ⟨P,p1,p2,p3⟩:=unG_row N B ax k hax hk ps (min (sp.2+k) B) (j1+1+(aq t).length) f1 (out++[(sp,((j1+1:Nat):Int),((j1+1+(aq t).length:Nat):Int))]) g5 (by omega) hd3 (fun x hm=>hx x (List.mem_cons_of_mem _ hm)) (by omega)
    refine ⟨(sp,((j1+1:Nat):Int),((j1+1+(aq t).length:Nat):Int))::P,?_,?_,?_⟩
    ·unfold unG
     rw [dif_pos hi,h1]
     dsimp only
     rw [if_neg (by omega),if_neg (by omega),if_neg (by omega),dif_pos hi2,h3]
     dsimp only
     rw [if_neg k3,ht,if_neg (by omega),Int.toNat_natCast,p1,List.append_assoc];rfl
    ·rw [List.map_cons,p2]
    ·rw [List.map_cons,p3,prtN_of h2]
   ·rw [if_neg hlt] at hd1
    have hB:sp.2=B:=by omega
    have hps:=g4 hB
    subst hps
    obtain ⟨f1,rfl⟩:∃ g,f1=g+1:=⟨f1 - 1,by
     have:0 < f1:=by omega
     omega⟩
    obtain ⟨hi,h1,h2⟩:=bk (x:=(headK t,ha)) (m:=hR) (by rw [hd1,hh])
    have hd1':N.drop j1=aq t++[]:=by rw [hd1,List.append_nil]
    have ht:=treeR_one k1 hd1'
    have hl:j1+(aq t).length=N.length:=by
     have:=congrArg List.length hd1
     rw [List.length_drop] at this;omega
    refine ⟨[(sp,(j1:Int),((j1+(aq t).length:Nat):Int))],?_,rfl,?_⟩
    ·unfold unG
     rw [dif_pos hi,h1]
     dsimp only
     rw [if_neg k3,if_pos k2,ht,hl,← hB]
     simp
    ·rw [List.map_cons,prtN_of hd1'];rfl
  have hrow:bM k ax B e ((sp,t)::ps)=if e < sp.1 then .rip ax (sp.1 - k) (.leaf (0,0)) (if sp.2 < B then .rip ax sp.2 t (bM k ax B (min (sp.2+k) B) ps) else t) else (if sp.2 < B then .rip ax sp.2 t (bM k ax B (min (sp.2+k) B) ps) else t):=rfl
  rw [hrow] at hd
  by_cases hlt:e < sp.1
  ·rw [if_pos hlt] at hd
   obtain ⟨f,rfl⟩:∃ g,f=g+1:=⟨f - 1,by omega⟩
   generalize hT2:(if sp.2 < B then Tr.rip ax sp.2 t (bM k ax B (min (sp.2+k) B) ps) else t)=T2 at *
   obtain ⟨hi,h1,h2⟩:=bk (x:=(ax,sp.1 - k)) (m:=(0,0)::aq T2) hd
   obtain ⟨hi2,h3,h4⟩:=bk (x:=((0:Int),(0:Int))) (m:=aq T2) h2
   obtain ⟨P,p1,p2,p3⟩:=body (j+2) f true h4 (by omega)
   refine ⟨P,?_,p2,p3⟩
   unfold unG
   rw [dif_pos hi,h1]
   dsimp only
   rw [if_neg (by omega),if_neg (by omega),if_neg (by omega),dif_pos hi2,h3,if_pos rfl,if_neg (by decide),show min (sp.1 - k+k) B=sp.1 by omega]
   exact p1
  ·rw [if_neg hlt] at hd
   have he2:sp.1=e:=by omega
   rw [← he2]
   obtain ⟨P,p1,p2,p3⟩:=body j f false hd hf
   exact ⟨P,p1,p2,p3⟩
theorem rowG_of {k ax B:Int} (hk:0≤k):∀ (ps:List (an×List Nd)) (e:Int) (en:Bool) (out:List Nd),eK k B e (ps.map Prod.fst)→(en=true→ps=[])→(out++if en=true then [] else bS k ax B e ps).length≤127 →
  iX k ax B e en ps out=(out++(if en=true then [] else bS k ax B e ps),0)
 | [],e,en,out,_,_,hl=>by
  unfold iX
  cases en with
  | true =>
   simp only [if_true] at hl ⊢
   rw [if_neg (by simpa using hl),List.append_nil]
  | false =>
   simp only [if_false,Bool.false_eq_true] at hl ⊢
   rw [if_neg (by unfold bS at hl;omega)];rfl
 | (sp,M)::ps,e,en,out,⟨g1,g2,g3,g4,g5⟩,hen,hl=>by
  dsimp only at g1 g2 g3 g4 g5
  cases en with
  | true=>cases hen rfl
  | false =>
   simp only [if_false,Bool.false_eq_true] at hl ⊢
   unfold iX
   dsimp only
   rw [if_neg (by omega),if_neg (by simp;omega),if_neg (by omega)]
   have hen2:decide (sp.2=B)=true→ps=[]:=fun h=>List.map_eq_nil_iff.1 (g4 (of_decide_eq_true h))
   have e1:(if sp.1=e then ([]:List Nd) else [(ax,sp.1 - k),(0,0)])=(if e < sp.1 then [(ax,sp.1 - k),(0,0)] else []):=by
    by_cases h:sp.1=e
    ·rw [if_pos h,if_neg (by omega)]
    ·rw [if_neg h,if_pos (by omega)]
   have e2:(if sp.2=B then ([]:List Nd) else [(ax,sp.2)])=(if sp.2 < B then [(ax,sp.2)] else []):=by
    by_cases h:sp.2=B
    ·rw [if_pos h,if_neg (by omega)]
    ·rw [if_neg h,if_pos (by omega)]
   have e3:(if decide (sp.2=B)=true then ([]:List Nd) else bS k ax B (min (sp.2+k) B) ps)=(if sp.2 < B then bS k ax B (min (sp.2+k) B) ps else []):=by
    by_cases h:sp.2=B
    ·rw [if_pos (by simp [h]),if_neg (by omega)]
    ·rw [if_neg (by simp [h]),if_pos (by omega)]
   have e4:((out++if e < sp.1 then [(ax,sp.1 - k),(0,0)] else [])++if sp.2 < B then [(ax,sp.2)] else [])++M++(if sp.2 < B then bS k ax B (min (sp.2+k) B) ps else [])=out++bS k ax B e ((sp,M)::ps):=by
    simp only [bS,List.append_assoc]
   rw [e1,e2]
   have ih:=rowG_of hk ps (min (sp.2+k) B) (decide (sp.2=B)) (((out++if e < sp.1 then [(ax,sp.1 - k),(0,0)] else [])++if sp.2 < B then [(ax,sp.2)] else [])++M) g5 hen2 (by rw [e3,e4];exact hl)
   rw [ih,e3,e4]
theorem rowG_inv {k ax B:Int} (hk:0≤k):∀ (ps:List (an×List Nd)) (e:Int) (en:Bool) (out N:List Nd),e≤B→iX k ax B e en ps out=(N,0) →
  (en=true→ps=[]∧N=out)∧(en=false→eK k B e (ps.map Prod.fst)∧N=out++bS k ax B e ps)
 | [],e,en,out,N,_,h=>by
  unfold iX at h
  cases en with
  | true =>
   simp only [if_true] at h
   split at h
   ·cases h
   ·obtain ⟨h,_⟩:=Prod.mk.inj h
    exact ⟨fun _=>⟨rfl,h.symm⟩,fun h=>by cases h⟩
  | false =>
   simp only [if_false,Bool.false_eq_true] at h
   split at h
   ·cases h
   ·obtain ⟨h,_⟩:=Prod.mk.inj h
    exact ⟨fun h=>(by cases h),fun _=>⟨trivial,h.symm⟩⟩
 | (sp,M)::ps,e,en,out,N,he,h=>by
  unfold iX at h
  dsimp only at h
  split at h
  ·cases h
  rename_i c1
  split at h
  ·cases h
  rename_i c2
  split at h
  ·cases h
  rename_i c3
  have hen:en=false:=by
   cases en with
   | true=>exact absurd (.inl rfl) c2
   | false=>rfl
  subst hen
  simp only [Bool.false_eq_true,false_or] at c2
  obtain ⟨i1,i2⟩:=rowG_inv hk ps _ _ _ N (by omega) h
  refine ⟨fun h=>(by cases h),fun _=>?_⟩
  have e1:(if sp.1=e then ([]:List Nd) else [(ax,sp.1 - k),(0,0)])=(if e < sp.1 then [(ax,sp.1 - k),(0,0)] else []):=by
   by_cases h:sp.1=e
   ·rw [if_pos h,if_neg (by omega)]
   ·rw [if_neg h,if_pos (by omega)]
  have e2:(if sp.2=B then ([]:List Nd) else [(ax,sp.2)])=(if sp.2 < B then [(ax,sp.2)] else []):=by
   by_cases h:sp.2=B
   ·rw [if_pos h,if_neg (by omega)]
   ·rw [if_neg h,if_pos (by omega)]
  by_cases hB:sp.2=B
  ·obtain ⟨j1,j2⟩:=i1 (by simp [hB])
   subst j1
   refine ⟨show eK k B e (sp::([]:List (an×List Nd)).map Prod.fst) from ⟨by omega,by omega,by omega,fun _=>rfl,trivial⟩,?_⟩
   rw [j2,e1,e2]
   simp only [bS,List.append_assoc]
   rw [if_neg (show ¬ sp.2 < B by omega),if_neg (show ¬ sp.2 < B by omega),List.append_nil]
  ·obtain ⟨j1,j2⟩:=i2 (by simp [hB])
   refine ⟨show eK k B e (sp::ps.map Prod.fst) from ⟨by omega,by omega,by omega,fun h=>absurd h hB,j1⟩,?_⟩
   rw [j2,e1,e2]
   simp only [bS,List.append_assoc]
   rw [if_pos (show sp.2 < B by omega),if_pos (show sp.2 < B by omega)]
end Go.Proofs.YtdndfncpglfdeaaGreatDoor.Tp

namespace Go.Proofs.YtdndfncpglfdeaaGreatDoor.Tp
set_option linter.unusedVariables false
set_option linter.unusedSimpArgs false
open Go.RowKit Go.Proofs.YtdndfncpglfdeaaGreatDoor.Ev
open Go.Proofs.YtdndfncpglfdeaaGreatDoor.Ge (an aG)
theorem zip_maps {α β γ:Type} (f:α→β) (g:α→γ) (l:List α):(l.map f).zip (l.map g)=l.map fun x=>(f x,g x):=List.zip_map' ..
theorem zip_of {p:List Prt} {N:List Nd} {ps:List (an×Tr)} (h1:p.map Prod.fst=ps.map Prod.fst) (h2:p.map (dA N)=ps.map (fun x=>aq x.2)):(p.map Prod.fst).zip (p.map (dA N))=ps.map (fun x=>(x.1,aq x.2)):=by
 rw [h1,h2,zip_maps]
theorem same_row {k ax B A0:Int} (hk:0≤k) {p:List Prt} {ps:List (an×Tr)} (ho:eN k B A0 ps) (hl:(aq (bM k ax B A0 ps)).length≤127) (h1:p.map Prod.fst=ps.map Prod.fst) (h2:p.map (dA (aq (bM k ax B A0 ps)))=ps.map (fun x=>aq x.2)) :
  sameS (aq (bM k ax B A0 ps)) k ax (A0,B) p=true:=by
 unfold sameS
 rw [zip_of h1 h2]
 dsimp only
 have hr:=rowG_of (ax:=ax) hk (ps.map (fun x=>(x.1,aq x.2))) A0 false [] (by rw [List.map_map];exact rowOk_back ho) (fun h=>by cases h) (by rw [if_neg (by decide),iQ];exact hl)
 rw [hr,if_neg (by decide),iQ]
 simp
theorem mem_part {p:List Prt} {N:List Nd} {ps:List (an×Tr)} (h1:p.map Prod.fst=ps.map Prod.fst) (h2:p.map (dA N)=ps.map (fun x=>aq x.2)):∀ x∈p,∃ y∈ps,x.1=y.1∧dA N x=aq y.2:=by
 intro x hx
 obtain ⟨i,hi,e⟩:=List.mem_iff_getElem.1 hx
 have hl:p.length=ps.length:=by have:=congrArg List.length h1;simpa using this
 have e1:(p.map Prod.fst)[i]'(by simpa using hi)=(ps.map Prod.fst)[i]'(by simpa using (by omega:i < ps.length)):=by simp only [h1]
 have e2:(p.map (dA N))[i]'(by simpa using hi)=(ps.map (fun x=>aq x.2))[i]'(by simpa using (by omega:i < ps.length)):=by simp only [h2]
 simp only [List.getElem_map] at e1 e2
 exact ⟨ps[i],List.getElem_mem _,by rw [← e];exact e1,by rw [← e];exact e2⟩
theorem prt_one {N:List Nd} {x:Prt} {n:Nd} (ho:okPrt N x) (hlt:x.2.1 < x.2.2) (h:dA N x=[n]):x.2.2=x.2.1+1∧N[x.2.1.toNat]?=some n:=by
 obtain ⟨o1,o2,o3,_⟩:=ho
 unfold dA at h
 have hl:=congrArg List.length h
 rw [List.length_drop,List.length_take,List.length_singleton] at hl
 have h3:x.2.2=x.2.1+1:=by omega
 refine ⟨h3,?_⟩
 have h4:((N.take x.2.2.toNat).drop x.2.1.toNat)[0]?=some n:=by rw [h];rfl
 rw [List.getElem?_drop,List.getElem?_take] at h4
 rw [if_pos (by omega)] at h4
 exact h4
theorem prt_back {N:List Nd} {x:Prt} {n:Nd} (ho:okPrt N x) (h3:x.2.2=x.2.1+1) (h:N[x.2.1.toNat]?=some n):dA N x=[n]:=by
 obtain ⟨o1,o2,o3,_⟩:=ho
 obtain ⟨hi,e⟩:=List.getElem?_eq_some_iff.1 h
 unfold dA
 rw [List.drop_take,show x.2.2.toNat - x.2.1.toNat=1 by omega,List.drop_eq_getElem_cons hi,e];rfl
theorem strip_row {c:List Pr} {X Y:an} {s:Sw} (hk:0≤s.kerf) (hX:aJ X) {ps:List (an×Tr)} (ho:eN s.kerf X.2 X.1 ps) (hne:ps≠[]) (hl:(aq (bM s.kerf 2 X.2 X.1 ps)).length≤127)
  (hp:∀ x∈ps,∃ p,x.2=.leaf (1,p)∧(x.1.1 - X.1).tmod s.pitch=0∧(x.1.2 - x.1.1,p)∈cB c (Y.2 - Y.1)):df c (aq (bM s.kerf 2 X.2 X.1 ps)) X Y s=true:=by
 obtain ⟨x1,x2,x3⟩:=hX
 have hdr:(aq (bM s.kerf 2 X.2 X.1 ps)).drop 0=aq (bM s.kerf 2 X.2 X.1 ps):=rfl
 obtain ⟨P,p1,p2,p3⟩:=unG_row _ X.2 2 s.kerf (.inl rfl) hk ps X.1 0 ((aq (bM s.kerf 2 X.2 X.1 ps)).length+1) [] ho (by omega) hdr (fun x hx=>by
  obtain ⟨p,e,_⟩:=hp x hx
  rw [e];exact ⟨.inr rfl,by show (1:Int)≠2;decide,by show (1:Int)≠0;decide⟩) (by omega)
 rw [List.nil_append] at p1
 have hs:=same_row (ax:=2) hk ho hl p2 p3
 obtain ⟨hok,_⟩:=unG_ok _ X.1 X.2 2 s.kerf x1 x3 hk _ _ _ _ _ _ p1 (Int.le_refl _) (by omega) (fun x hx=>absurd hx List.not_mem_nil) (Nat.le_refl _)
 have hm:=mem_part p2 p3
 unfold df
 rw [p1]
 dsimp only
 rw [show (X.1,X.2)=X from rfl] at hs
 rw [hs]
 have hPe:P.isEmpty=false:=by
  cases P with
  | nil=>exact absurd (List.map_eq_nil_iff.1 p2.symm) hne
  | cons=>rfl
 rw [hPe]
 have hall:P.all (bdPrt c (aq (bM s.kerf 2 X.2 X.1 ps)) X Y s.pitch)=true:=by
  rw [List.all_eq_true]
  intro x hx
  obtain ⟨y,hy,e1,e2⟩:=hm x hx
  obtain ⟨p,e3,e4,e5⟩:=hp y hy
  obtain ⟨h3,h4⟩:=prt_one (n:=(1,p)) (hok x hx).1 (hok x hx).2 (by rw [e2,e3];rfl)
  unfold bdPrt
  rw [h4]
  dsimp only
  rw [e1,decide_eq_true h3,decide_eq_true e4,decide_eq_true e5];rfl
 rw [hall];rfl
theorem member_row {c:List Pr} {X Y:an} {s:Sw} (hk:0≤s.kerf) (hY:aJ Y) {ps:List (an×Tr)} (ho:eN s.kerf Y.2 Y.1 ps) (hl:(aq (bM s.kerf 3 Y.2 Y.1 ps)).length≤127)
  (hp:∀ x∈ps,KindT x.2∧headK x.2≠3∧headK x.2≠0∧(x.1.1 - Y.1).tmod s.pitch=0∧x.1.2 - x.1.1∈aE c∧df c (aq x.2) X x.1 s=true):iL c (aq (bM s.kerf 3 Y.2 Y.1 ps)) X Y s=true:=by
 obtain ⟨x1,x2,x3⟩:=hY
 have hdr:(aq (bM s.kerf 3 Y.2 Y.1 ps)).drop 0=aq (bM s.kerf 3 Y.2 Y.1 ps):=rfl
 obtain ⟨P,p1,p2,p3⟩:=unG_row _ Y.2 3 s.kerf (.inr rfl) hk ps Y.1 0 ((aq (bM s.kerf 3 Y.2 Y.1 ps)).length+1) [] ho (by omega) hdr (fun x hx=>⟨(hp x hx).1,(hp x hx).2.1,(hp x hx).2.2.1⟩) (by omega)
 rw [List.nil_append] at p1
 have hs:=same_row (ax:=3) hk ho hl p2 p3
 have hm:=mem_part p2 p3
 unfold iL
 rw [p1]
 dsimp only
 rw [show (Y.1,Y.2)=Y from rfl] at hs
 rw [hs]
 have hall:P.all (fun x=>decide ((x.1.1 - Y.1).tmod s.pitch=0) && decide (x.1.2 - x.1.1∈rhN c c.length) && df c (dA (aq (bM s.kerf 3 Y.2 Y.1 ps)) x) X x.1 s)=true:=by
  rw [List.all_eq_true]
  intro x hx
  obtain ⟨y,hy,e1,e2⟩:=hm x hx
  obtain ⟨_,_,_,h4,h5,h6⟩:=hp y hy
  rw [e1,e2,decide_eq_true h4,decide_eq_true ((rh_iff c _).2 h5),h6];rfl
 rw [hall];rfl
def StripT (c:List Pr) (X Y:an) (s:Sw) (t:Tr):Prop :=
 ∃ qs:List (an×Tr),t=bM s.kerf 2 X.2 X.1 qs∧eN s.kerf X.2 X.1 qs∧qs≠[]∧∀ y∈qs,∃ p,y.2=.leaf (1,p)∧(y.1.1 - X.1).tmod s.pitch=0∧(y.1.2 - y.1.1,p)∈cB c (Y.2 - Y.1)
theorem strip_inv {c:List Pr} {M:List Nd} {X Y:an} {s:Sw} (hk:0≤s.kerf) (hX:aJ X) (h:df c M X Y s=true):∃ t,StripT c X Y s t∧M=aq t:=by
 obtain ⟨x1,x2,x3⟩:=hX
 unfold df at h
 have hu:=unG_ok M X.1 X.2 2 s.kerf x1 x3 hk (M.length+1) 0 X.1 false []
 generalize unG M X.2 2 s.kerf (M.length+1) 0 X.1 false []=u at *
 obtain ⟨P,ok⟩:=u
 dsimp only at h
 simp only [Bool.and_eq_true,Bool.not_eq_true',List.all_eq_true] at h
 obtain ⟨⟨⟨h1,h2⟩,h3⟩,h4⟩:=h
 subst h1
 obtain ⟨hok,_⟩:=hu P rfl (Int.le_refl _) (by omega) (fun x hx=>absurd hx List.not_mem_nil) (Nat.le_refl _)
 unfold sameS at h3
 simp only [Bool.and_eq_true,decide_eq_true_eq] at h3
 obtain ⟨h5,h6⟩:=h3
 obtain ⟨_,i2⟩:=rowG_inv hk _ X.1 false [] M (by omega) (Prod.ext_iff.2 ⟨h6.symm,h5⟩)
 obtain ⟨j1,j2⟩:=i2 rfl
 let qs:List (an×Tr):=P.map fun x=>(x.1,Tr.leaf (1,(M.getD x.2.1.toNat (0,0)).2))
 have hb:∀ x∈P,x.2.2=x.2.1+1∧M[x.2.1.toNat]?=some (1,(M.getD x.2.1.toNat (0,0)).2)∧(x.1.1 - X.1).tmod s.pitch=0∧(x.1.2 - x.1.1,(M.getD x.2.1.toNat (0,0)).2)∈cB c (Y.2 - Y.1):=by
  intro x hx
  have hb:=h4 x hx
  unfold bdPrt at hb
  rw [List.getD_eq_getElem?_getD]
  cases hn:M[x.2.1.toNat]? with
  | none=>rw [hn] at hb;cases hb
  | some n =>
   rw [hn] at hb
   dsimp only at hb
   simp only [Bool.and_eq_true,decide_eq_true_eq] at hb
   obtain ⟨⟨⟨b1,b2⟩,b3⟩,b4⟩:=hb
   refine ⟨b1,?_,b3,b4⟩
   rw [Option.getD_some,← b2]
 have hz:(P.map Prod.fst).zip (P.map (dA M))=qs.map (fun x=>(x.1,aq x.2)):=by
  rw [zip_maps,List.map_map]
  refine List.map_congr_left fun x hx=>?_
  obtain ⟨b1,b2,_⟩:=hb x hx
  rw [prt_back (hok x hx).1 b1 b2];rfl
 rw [hz] at j1 j2
 rw [List.map_map] at j1
 refine ⟨bM s.kerf 2 X.2 X.1 qs,⟨qs,rfl,rowOk_S j1,?_,?_⟩,by rw [j2,iQ];rfl⟩
 ·intro hq
  have:P=[]:=List.map_eq_nil_iff.1 hq
  rw [this] at h2;cases h2
 ·intro y hy
  obtain ⟨x,hx,rfl⟩:=List.mem_map.1 hy
  obtain ⟨_,_,b3,b4⟩:=hb x hx
  exact ⟨_,rfl,b3,b4⟩
theorem choose_list {α β:Type} {P:α→β→Prop}:∀ (l:List α),(∀ x∈l,∃ t,P x t)→∃ m:List (α×β),m.map Prod.fst=l∧∀ y∈m,P y.1 y.2
 | [],_=>⟨[],rfl,fun _ h=>absurd h List.not_mem_nil⟩
 | x::l,h=>by
  obtain ⟨t,ht⟩:=h x (List.mem_cons_self ..)
  obtain ⟨m,m1,m2⟩:=choose_list l (fun y hy=>h y (List.mem_cons_of_mem _ hy))
  refine ⟨(x,t)::m,by rw [List.map_cons,m1],fun y hy=>?_⟩
  rcases List.mem_cons.1 hy with rfl|hy
  ·exact ht
  ·exact m2 y hy
theorem member_inv {c:List Pr} {N:List Nd} {X Y:an} {s:Sw} (hk:0≤s.kerf) (hX:aJ X) (hY:aJ Y) (h:iL c N X Y s=true) :
  ∃ ps:List (an×Tr),N=aq (bM s.kerf 3 Y.2 Y.1 ps)∧eN s.kerf Y.2 Y.1 ps∧∀ x∈ps,(x.1.1 - Y.1).tmod s.pitch=0∧x.1.2 - x.1.1∈aE c∧StripT c X x.1 s x.2:=by
 obtain ⟨y1,y2,y3⟩:=hY
 unfold iL at h
 generalize unG N Y.2 3 s.kerf (N.length+1) 0 Y.1 false []=u at *
 obtain ⟨P,ok⟩:=u
 dsimp only at h
 simp only [Bool.and_eq_true,List.all_eq_true,decide_eq_true_eq] at h
 obtain ⟨⟨h1,h3⟩,h4⟩:=h
 unfold sameS at h3
 simp only [Bool.and_eq_true,decide_eq_true_eq] at h3
 obtain ⟨h5,h6⟩:=h3
 obtain ⟨_,i2⟩:=rowG_inv hk _ Y.1 false [] N (by omega) (Prod.ext_iff.2 ⟨h6.symm,h5⟩)
 obtain ⟨j1,j2⟩:=i2 rfl
 obtain ⟨m,m1,m2⟩:=choose_list (P:=fun (x:Prt) t=>StripT c X x.1 s t∧dA N x=aq t) P (fun x hx=>strip_inv hk hX (h4 x hx).2)
 let ps:List (an×Tr):=m.map fun y=>(y.1.1,y.2)
 have hz:(P.map Prod.fst).zip (P.map (dA N))=ps.map (fun x=>(x.1,aq x.2)):=by
  rw [zip_maps,← m1,List.map_map,List.map_map]
  refine List.map_congr_left fun y hy=>?_
  show (y.1.1,dA N y.1)=(y.1.1,aq y.2)
  rw [(m2 y hy).2]
 rw [hz] at j1 j2
 rw [List.map_map] at j1
 refine ⟨ps,by rw [j2,iQ];rfl,rowOk_S j1,?_⟩
 intro x hx
 obtain ⟨y,hy,rfl⟩:=List.mem_map.1 hx
 have hyP:y.1∈P:=by rw [← m1];exact List.mem_map_of_mem hy
 obtain ⟨⟨a1,a2⟩,_⟩:=h4 y.1 hyP
 exact ⟨a1,(rh_iff c _).1 a2,(m2 y hy).1⟩
end Go.Proofs.YtdndfncpglfdeaaGreatDoor.Tp

namespace Go.Proofs.YtdndfncpglfdeaaGreatDoor.Tp
set_option linter.unusedVariables false
set_option linter.unusedSimpArgs false
open Go.RowKit Go.Proofs.YtdndfncpglfdeaaGreatDoor.Ev
open Go.Proofs.YtdndfncpglfdeaaGreatDoor.Cu (TV PV OKs aR gOf bC)
open Go.Proofs.YtdndfncpglfdeaaGreatDoor.Ge (an aG Slc Dfc aw bH ey)
variable {l:List Slc} {d:List Dfc} {c:List Pr} {s:Sw} {r:Rt}
theorem row_in {k B:Int} (hk:0≤k):∀ {ps:List (an×Tr)} {e:Int},eN k B e ps→e≤B→∀ y∈ps,e≤y.1.1∧y.1.1 < y.1.2∧y.1.2≤B
 | [],_,_,_,_,hy=>absurd hy List.not_mem_nil
 | x::ps,e,⟨h1,h2,h3,h4,h5⟩,he,y,hy=>by
  rcases List.mem_cons.1 hy with rfl|hy
  ·exact ⟨by omega,h1,h2⟩
  ·have:=row_in hk h5 (by omega) y hy
   omega
theorem row_leaves {k ax B:Int} (hk:0≤k) {R:aG} {P:aG×Int→Prop}:∀ (ps:List (an×Tr)) (e:Int),e≤B→eN k B e ps→(∀ z∈aC k (bK R ax (e,B)) (bM k ax B e ps),P z)→∀ y∈ps,∀ z∈aC k (bK R ax y.1) y.2,P z
 | [],_,_,_,_=>fun _ hy=>absurd hy List.not_mem_nil
 | (s,t)::ps,e,he,⟨h1,h2,h3,h4,h5⟩,hx=>by
  dsimp only at h1 h2 h3 h4 h5
  have body:∀ u,u=s.1→(∀ z∈aC k (bK R ax (u,B)) (if s.2 < B then .rip ax s.2 t (bM k ax B (min (s.2+k) B) ps) else t),P z)→(∀ z∈aC k (bK R ax s) t,P z)∧∀ y∈ps,∀ z∈aC k (bK R ax y.1) y.2,P z:=by
   intro u hu hz
   subst hu
   by_cases hlt:s.2 < B
   ·rw [if_pos hlt] at hz
    simp only [aC,List.mem_append] at hz
    rw [i9,gX] at hz
    exact ⟨fun z hm=>hz z (.inl hm),row_leaves hk ps _ (by omega) h5 (fun z hm=>hz z (.inr hm))⟩
   ·rw [if_neg hlt] at hz
    have hB:s.2=B:=by omega
    rw [← hB] at hz
    refine ⟨hz,?_⟩
    rw [h4 hB];intro y hy;cases hy
  have hb:(∀ z∈aC k (bK R ax s) t,P z)∧∀ y∈ps,∀ z∈aC k (bK R ax y.1) y.2,P z:=by
   unfold bM at hx
   dsimp only at hx
   by_cases hlt:e < s.1
   ·rw [if_pos hlt] at hx
    simp only [aC,List.mem_append] at hx
    rw [gX] at hx
    exact body _ (by omega) (fun z hm=>hx z (.inr hm))
   ·rw [if_neg hlt] at hx
    exact body e (by omega) hx
  intro y hy
  rcases List.mem_cons.1 hy with rfl|hy
  ·exact hb.1
  ·exact hb.2 y hy
def Gives (l:List Slc) (d:List Dfc) (c:List Pr) (s:Sw) (r:Rt) (R:aG) (T:Tr):Prop:=∀ x∈aC s.kerf R T,x.2≠-1→(bdF l d c s r.fine x.1 x.2).isSome=true
theorem cheap_of {ax:Int} {R:aG} {L:Cu.Line} (h:LineOf (cS l) r.chip r.dust s.kerf ax R L) (hd:r.dust≤r.chip):Cheap L:=by
 intro a b h0 h1 h2
 rw [h.cp a b h0 h1 h2,h.dp a b h0 h1 h2]
 exact Int.mul_le_mul_of_nonneg_right hd (volR_nn _).1
theorem board_up (h:Hy l d c s r) {X Y:an} {y:an×Tr} {p:Int} (e:y.2=.leaf (1,p)) (hm:(y.1.1 - X.1).tmod s.pitch=0) (hz:(y.1.2 - y.1.1,p)∈cB c (Y.2 - Y.1)) (h1:X.1≤y.1.1) (h2:y.1.2≤X.2) (hg:(bdF l d c s r.fine (y.1,Y) p).isSome=true) :
  UPg (aU l d c X Y s r) (ft (cS l) (bdF l d c s r.fine) r.chip r.dust s.kerf 2 (X,Y) y):=by
 obtain ⟨k,hk,ek⟩:=List.mem_iff_getElem.1 hz
 have hgd:(cB c (Y.2 - Y.1)).getD k (0,0)=(y.1.2 - y.1.1,p):=by rw [List.getD_eq_getElem?_getD,List.getElem?_eq_getElem hk,Option.getD_some,ek]
 have hsz:aR (aU l d c X Y s r) (k:Int)=y.1.2 - y.1.1:=by
  show ((cB c (Y.2 - Y.1)).map Prod.fst).getD ((k:Int).toNat) 0=_
  rw [sz_fst,Int.toNat_natCast,hgd]
 have hb:=sz_szB (X:=y.1) h.pro hz rfl
 have hval:gN l d c s r (y.1,Y) (.leaf (1,p))=eR l d (fF c p.toNat) y.1 Y s r:=val_board (R:=(y.1,Y)) hg
 have hge:=(valP_le h (B:=szB c) (R:=(y.1,Y)) (t:=.leaf (1,p)) (.inr ⟨rfl,hb.1⟩)).1
 have hgo:=gOf_e (l:=l) (d:=d) (c:=c) (X:=X) (Y:=Y) (s:=s) (r:=r) (k:=(k:Int)) (q:=y.1.1 - X.1) (by rw [Int.toNat_natCast];exact hk) (by omega) (by rw [hsz];omega)
 rw [Int.toNat_natCast,hgd] at hgo
 dsimp only at hgo
 unfold f8 at hgo
 rw [Int.toNat_of_nonneg (by omega),if_pos hm,show (X.1+(y.1.1 - X.1),X.1+(y.1.1 - X.1+(y.1.2 - y.1.1)))=y.1 from Prod.ext (by dsimp only;omega) (by dsimp only;omega),← hval] at hgo
 have hpg:ft (cS l) (bdF l d c s r.fine) r.chip r.dust s.kerf 2 (X,Y) y=(y.1.1 - X.1,y.1.2 - X.1,gN l d c s r (y.1,Y) (.leaf (1,p))):=by
  unfold ft;rw [e];rfl
 refine .inl ⟨k,?_,?_,?_,?_⟩
 ·show k < ((cB c (Y.2 - Y.1)).map Prod.fst).length
  rw [List.length_map];exact hk
 ·rw [hpg,hsz];dsimp only;omega
 ·rw [hpg];dsimp only;rw [hgo];exact hge
 ·rw [hpg];dsimp only;rw [hgo];exact Int.le_refl _
theorem strip_okG (h:Hy l d c s r) {X Y:an} (hX:aJ X) {t:Tr} (ht:StripT c X Y s t):OkG s.kerf (szB c) (X,Y) t:=by
 obtain ⟨qs,rfl,ho,_,hq⟩:=ht
 refine row_okG (R:=(X,Y)) h.sw.1 (.inl rfl) _ X.1 (by have:=hX.2.1;omega) ho fun y hy=>?_
 obtain ⟨p,e,_,hz⟩:=hq y hy
 rw [e]
 exact .inr ⟨rfl,(sz_szB (X:=y.1) h.pro hz rfl).1⟩
theorem strip_le (h:Hy l d c s r) (hd:r.dust≤r.chip) {X Y:an} (hX:aJ X) (hY:aJ Y) {t:Tr} (ht:StripT c X Y s t) (hg:Gives l d c s r (X,Y) t):gN l d c s r (X,Y) t≤TV (aU l d c X Y s r) 0:=by
 obtain ⟨qs,rfl,ho,_,hq⟩:=ht
 have hlt:=hX.2.1
 have L:=eLine_of l d c X Y s r (Int.le_of_lt hlt)
 have hv:=row_val (bd:=bdF l d c s r.fine) h.sw.1 L qs X.1 (Int.le_refl _) (Int.le_of_lt hlt) ho
 have hk:=row_okg (bd:=bdF l d c s r.fine) h.sw.1 L qs X.1 (Int.le_refl _) (Int.le_of_lt hlt) ho
 have hlv:=row_leaves (R:=(X,Y)) (ax:=2) h.sw.1 qs X.1 (Int.le_of_lt hlt) ho hg
 rw [show X.1 - (aD (X,Y) 2).1=0 by show X.1 - X.1=0;omega] at hv hk
 have hle:=pvg_le (eH h hX hY) rfl (cheap_of L hd) _ 0 (Int.le_refl _) (by show 0≤X.2 - X.1;omega) hk (fun x hx=>by
  obtain ⟨y,hy,rfl⟩:=List.mem_map.1 hx
  obtain ⟨p,e,hm,hz⟩:=hq y hy
  obtain ⟨i1,i2,i3⟩:=row_in h.sw.1 ho (Int.le_of_lt hlt) y hy
  have hb:=sz_szB (X:=y.1) h.pro hz rfl
  refine board_up h e hm hz i1 i3 (hlv y hy ((y.1,Y),p) ?_ ?_)
  ·rw [e]
   show ((y.1,Y),p)∈[((y.1,Y),if (1:Int)=0 then -1 else p)]
   rw [if_neg (by decide)];exact List.mem_singleton.2 rfl
  ·have:=hb.1.1
   dsimp only;omega)
 have hv2:gN l d c s r (X,Y) (bM s.kerf 2 X.2 X.1 qs)=_:=hv
 rw [hv2]
 exact hle
theorem mult_next {g a b:Int} (hg:0 < g) (ha:a.tmod g=0) (hb:b.tmod g=0) (h:a < b):a+g≤b:=by
 have h1:b - a=g * (b.tdiv g - a.tdiv g):=by
  have e1:=Int.mul_tdiv_add_tmod a g
  have e2:=Int.mul_tdiv_add_tmod b g
  rw [Int.mul_sub];omega
 have h2:0 < b.tdiv g - a.tdiv g:=by
  apply Classical.byContradiction
  intro hn
  have:=Int.mul_nonpos_of_nonneg_of_nonpos (Int.le_of_lt hg) (show b.tdiv g - a.tdiv g≤0 by omega)
  omega
 have h3:g * 1≤g * (b.tdiv g - a.tdiv g):=Int.mul_le_mul_of_nonneg_left (by omega) (Int.le_of_lt hg)
 omega
theorem few_pieces {L:Cu.Line} (v:Cu.Valid L) (hp:L.pitch=1) {g:Int} (hg:0 < g):∀ (p:List Cu.bI) (e:Int),OKs L e p→(∀ x∈p,x.2.tmod g=0)→∀ x ps,p=x::ps→x.2+g * ps.length < L.len
 | [],_,_,_,x,ps,hq=>by cases hq
 | y::q,e,ho,hm,x,ps,hq=>by
  injection hq with q1 q2
  subst q1;subst q2
  obtain ⟨q1,q2,q3,q4,q5,q6,q7⟩:=Cu.gI (l:=L) (e:=e) (s:=y.1) (p:=y.2) ho.1
  have hz:=Cu.fg v ho.1
  cases q with
  | nil=>simp;omega
  | cons z qs =>
   have ih:=few_pieces v hp hg (z::qs) _ ho.2 (fun x hx=>hm x (List.mem_cons_of_mem _ hx)) z qs rfl
   have hz2:=Cu.gI (l:=L) (e:=Cu.aA L (y.2+aR L y.1)) (s:=z.1) (p:=z.2) ho.2.1
   have hk:=v.kerf
   have hlt:y.2 < z.2:=by
    rcases beh_of v (b:=y.2+aR L y.1) (by omega) (by omega) with ⟨_,b2⟩|⟨_,b2,_,_⟩
    ·have:=hz2.2.2.2.2.1;omega
    ·rcases hz2.2.2.2.2.2.1 with h|⟨h,_⟩
     ·omega
     ·omega
   have:=mult_next hg (hm y (List.mem_cons_self ..)) (hm z (List.mem_cons_of_mem _ (List.mem_cons_self ..))) hlt
   rw [List.length_cons,Int.natCast_add,Int.mul_add]
   have:g * ((1:Nat):Int)=g:=by simp
   omega
theorem eNodes_few (h:Hy l d c s r) {X Y:an} (hX:aJ X) (hY:aJ Y) (hg:10≤s.pitch) (hw:X.2 - X.1≤160):(bV l d c X Y s r).length≤127:=by
 have hT:=ia (k:=s.kerf) (ax:=2) (B:=X.2) (ePs l d c X Y s r) X.1
 have hl:(ePs l d c X Y s r).length=(eP l d c X Y s r).length:=by unfold ePs;simp
 have hns:((ePs l d c X Y s r).map (fun x=>x.2.length)).sum≤1 * (ePs l d c X Y s r).length:=by
  refine sum_le _ fun y hy=>?_
  unfold ePs at hy
  obtain ⟨_,hy2⟩:=List.of_mem_zip hy
  obtain ⟨x,hx,hxe⟩:=List.mem_map.1 hy2
  rw [← hxe];unfold nodeP;simp
 have h16:(eP l d c X Y s r).length≤16:=by
  have hf:=few_pieces (eH h hX hY) rfl (g:=s.pitch) (by omega) _ 0 (e_chain h hX hY).1 (fun x hx=>(e_mem h hX hY x hx).2.2.2.1)
  have hm:=fun x hx=>(e_mem h hX hY x hx).2.1
  cases hP:eP l d c X Y s r with
  | nil=>simp
  | cons x ps =>
   have:=hf x ps hP
   have h0:=hm x (by rw [hP];exact List.mem_cons_self ..)
   have hlen:(aU l d c X Y s r).len=X.2 - X.1:=rfl
   have:10 * (ps.length:Int)≤s.pitch * ps.length:=Int.mul_le_mul_of_nonneg_right hg (by omega)
   rw [List.length_cons];omega
 unfold bV
 omega
theorem no_board (h:Hy l d c s r) {X Y:an} (hX:aJ X) (hY:aJ Y) (hn:¬ (bV l d c X Y s r).any dz=true):TV (aU l d c X Y s r) 0=r.chip * cS l (X,Y):=by
 have hc:=(e_chain h hX hY).2
 have hP:eP l d c X Y s r=[]:=by
  cases hP:eP l d c X Y s r with
  | nil=>rfl
  | cons x ps =>
   refine absurd ?_ hn
   rw [List.any_eq_true]
   unfold bV ePs
   rw [hP]
   simp only [List.map_cons,List.zip_cons_cons,bS]
   exact ⟨(1,((cB c (Y.2 - Y.1)).map Prod.snd).getD x.1.toNat 0),List.mem_append_right _ (List.mem_append_right _ (List.mem_append_left _ (List.mem_singleton.2 rfl))),rfl⟩
 rw [hP] at hc
 rw [← hc]
 have hlt:=hX.2.1
 have L:=eLine_of l d c X Y s r (Int.le_of_lt hlt)
 have hcp:=L.cp 0 (X.2 - X.1) (Int.le_refl _) (by omega) (Int.le_refl _)
 unfold PV
 rw [if_pos (Int.le_refl 0)]
 show Cu.cp (aU l d c X Y s r) (X.2 - X.1) - _=_
 rw [hcp]
 show r.chip * cS l ((X.1+0,X.1+(X.2 - X.1)),Y)=_
 rw [Int.add_zero,show X.1+(X.2 - X.1)=X.2 by omega]
theorem member_le (h:Hy l d c s r) (hd:r.dust≤r.chip) {X Y:an} (hX:aJ X) (hY:aJ Y) (hg:10≤s.pitch) (hw:X.2 - X.1≤160) {ps:List (an×Tr)} (ho:eN s.kerf Y.2 Y.1 ps)
  (hp:∀ x∈ps,(x.1.1 - Y.1).tmod s.pitch=0∧x.1.2 - x.1.1∈aE c∧StripT c X x.1 s x.2) (hgv:Gives l d c s r (X,Y) (bM s.kerf 3 Y.2 Y.1 ps)) :
  OkG s.kerf (szB c) (X,Y) (bM s.kerf 3 Y.2 Y.1 ps)∧gN l d c s r (X,Y) (bM s.kerf 3 Y.2 Y.1 ps)≤TV (bh l d c X Y s r) 0:=by
 have hlt:=hY.2.1
 have hac:∀ x∈ps,aJ x.1∧Y.1≤x.1.1∧x.1.2≤Y.2:=by
  intro x hx
  obtain ⟨i1,i2,i3⟩:=row_in h.sw.1 ho (Int.le_of_lt hlt) x hx
  have a1:=hY.1
  have a2:=hY.2.2
  exact ⟨⟨by omega,i2,by omega⟩,i1,i3⟩
 refine ⟨row_okG (R:=(X,Y)) h.sw.1 (.inr rfl) _ Y.1 (by omega) ho fun y hy=>strip_okG h hX (hp y hy).2.2,?_⟩
 have L:=pLine_of l d c X Y s r (Int.le_of_lt hlt)
 have hv:=row_val (bd:=bdF l d c s r.fine) h.sw.1 L ps Y.1 (Int.le_refl _) (Int.le_of_lt hlt) ho
 have hk:=row_okg (bd:=bdF l d c s r.fine) h.sw.1 L ps Y.1 (Int.le_refl _) (Int.le_of_lt hlt) ho
 have hlv:=row_leaves (R:=(X,Y)) (ax:=3) h.sw.1 ps Y.1 (Int.le_of_lt hlt) ho hgv
 rw [show Y.1 - (aD (X,Y) 3).1=0 by show Y.1 - Y.1=0;omega] at hv hk
 have hle:=pvg_le (dg h hX hY) rfl (cheap_of L hd) _ 0 (Int.le_refl _) (by show 0≤Y.2 - Y.1;omega) hk (fun z hz=>by
  obtain ⟨x,hx,rfl⟩:=List.mem_map.1 hz
  obtain ⟨hm,hh,hst⟩:=hp x hx
  obtain ⟨hax,b1,b2⟩:=hac x hx
  have hlt2:=hax.2.1
  have hsle:=strip_le h hd hX hax hst (hlv x hx)
  have hpg:ft (cS l) (bdF l d c s r.fine) r.chip r.dust s.kerf 3 (X,Y) x=(x.1.1 - Y.1,x.1.2 - Y.1,gN l d c s r (X,x.1) x.2):=rfl
  rw [hpg]
  by_cases hb:(bV l d c X x.1 s r).any dz=true
  ·obtain ⟨k,hk,ek⟩:=List.mem_iff_getElem.1 hh
   have hsz:aR (bh l d c X Y s r) (k:Int)=x.1.2 - x.1.1:=by
    show (aE c).getD ((k:Int).toNat) 0=_
    rw [Int.toNat_natCast,h_getD hk,ek]
   have hgo:=gOf_p (l:=l) (d:=d) (c:=c) (X:=X) (Y:=Y) (s:=s) (r:=r) (k:=(k:Int)) (q:=x.1.1 - Y.1) (by rw [Int.toNat_natCast];exact hk) (by omega) (by rw [hsz];omega)
   rw [hsz] at hgo
   have hse:(Y.1+(((x.1.1 - Y.1).toNat:Nat):Int),Y.1+((((x.1.1 - Y.1).toNat:Nat):Int)+(x.1.2 - x.1.1)))=x.1:=by
    rw [Int.toNat_of_nonneg (by omega)]
    exact Prod.ext (by dsimp only;omega) (by dsimp only;omega)
   have hok:pOk l d c X Y s r (x.1.2 - x.1.1) (x.1.1 - Y.1).toNat:=by
    unfold pOk
    rw [hse,Int.toNat_of_nonneg (by omega)]
    exact ⟨hm,eNodes_few h hX hax hg hw,hb⟩
   unfold ei at hgo
   rw [if_pos hok,hse] at hgo
   refine .inl ⟨k,hk,?_,?_,?_⟩
   ·rw [hsz];dsimp only;omega
   ·dsimp only;rw [hgo];exact (e_bd h hX hax (eNodes_few h hX hax hg hw)).1
   ·dsimp only;rw [hgo];exact hsle
  ·refine .inr ?_
   dsimp only
   rw [no_board h hX hax hb] at hsle
   rw [L.cp _ _ (by omega) (by omega) (by show x.1.2 - Y.1≤Y.2 - Y.1;omega)]
   show _≤r.chip * cS l (X,(Y.1+(x.1.1 - Y.1),Y.1+(x.1.2 - Y.1)))
   rw [show Y.1+(x.1.1 - Y.1)=x.1.1 by omega,show Y.1+(x.1.2 - Y.1)=x.1.2 by omega]
   exact hsle)
 have hv2:gN l d c s r (X,Y) (bM s.kerf 3 Y.2 Y.1 ps)=_:=hv
 rw [hv2]
 exact hle
theorem plan_member (h:Hy l d c s r) {X Y:an} (hX:aJ X) (hY:aJ Y) (hl:(ee l d c X Y s r).length≤127):iL c (ee l d c X Y s r) X Y s=true:=by
 rw [ga h hX hY] at hl ⊢
 unfold pTree at hl ⊢
 refine member_row h.sw.1 hY (p_rowOk h hX hY) hl fun y hy=>?_
 unfold pTs at hy
 obtain ⟨x,hx,rfl⟩:=List.mem_map.1 hy
 obtain ⟨_,m2,_,m4,m5,m6,m7,m8,_⟩:=p_mem h hX hY x hx
 have hkd:KindT (fx l d c X (dV l d c X Y s r x) s r):=kind_of (e_okG h hX m6)
 have hne:eTs l d c X (dV l d c X Y s r x) s r≠[]:=by
  intro hq
  rw [eNodes_T] at m8
  unfold fx at m8
  rw [hq] at m8
  cases m8
 have hhd:headK (fx l d c X (dV l d c X Y s r x) s r)=1∨headK (fx l d c X (dV l d c X Y s r x) s r)=2:=by
  unfold fx
  cases hq:eTs l d c X (dV l d c X Y s r x) s r with
  | nil=>exact absurd hq hne
  | cons z zs =>
   have hz:z∈eTs l d c X (dV l d c X Y s r x) s r:=by rw [hq];exact List.mem_cons_self ..
   unfold eTs at hz
   obtain ⟨w,hw,rfl⟩:=List.mem_map.1 hz
   unfold bM
   split
   ·exact .inr rfl
   ·split
    ·exact .inr rfl
    ·exact .inl rfl
 dsimp only
 refine ⟨hkd,by omega,by omega,?_,?_,?_⟩
 ·rw [show (dV l d c X Y s r x).1 - Y.1=x.2 by show Y.1+x.2 - Y.1=x.2;omega];exact m4
 ·rw [show (dV l d c X Y s r x).2 - (dV l d c X Y s r x).1=aR (bh l d c X Y s r) x.1 by show Y.1+(x.2+aR (bh l d c X Y s r) x.1) - (Y.1+x.2)=_;omega];exact m5
 ·rw [eNodes_T] at m7
  unfold fx at m7 ⊢
  refine strip_row h.sw.1 hX (e_rowOk h hX m6) hne m7 fun z hz=>?_
  unfold eTs at hz
  obtain ⟨w,hw,rfl⟩:=List.mem_map.1 hz
  obtain ⟨w1,w2,w3,w4,w5,_⟩:=e_mem h hX m6 w hw
  refine ⟨_,rfl,?_,?_⟩
  ·rw [show (dE X.1 (aU l d c X (dV l d c X Y s r x) s r) w).1 - X.1=w.2 by show X.1+w.2 - X.1=w.2;omega];exact w4
  ·have e:(dE X.1 (aU l d c X (dV l d c X Y s r x) s r) w).2 - (dE X.1 (aU l d c X (dV l d c X Y s r x) s r) w).1=((cB c ((dV l d c X Y s r x).2 - (dV l d c X Y s r x).1)).getD w.1.toNat (0,0)).1:=by
    rw [← w5]
    show X.1+(w.2+aR _ w.1) - (X.1+w.2)=_;omega
   dsimp only
   rw [e]
   exact getD_mem w1
end Go.Proofs.YtdndfncpglfdeaaGreatDoor.Tp

namespace Go.Proofs.YtdndfncpglfdeaaGreatDoor.Tp
set_option linter.unusedVariables false
set_option linter.unusedSimpArgs false
open Go.RowKit Go.Proofs.YtdndfncpglfdeaaGreatDoor.Ev
open Go.Proofs.YtdndfncpglfdeaaGreatDoor.Cu (TV PV OKs aR gOf bC TT)
open Go.Proofs.YtdndfncpglfdeaaGreatDoor.Ge (an aG Slc Dfc aw bH ey aX sbS bq)
theorem TT_table {l:Cu.Line} (v:Cu.Valid l) (W:Int→Int) (T:Int→Cu.Ch) (h:∀ k:Nat,k≤l.len.toNat→Cu.eJ l W k=T k∧(T k).2.2=W k):∀ (n k:Nat),n+k=l.len.toNat→TT l k=T k:=by
 have hl:=v.len
 intro n
 induction n using Nat.strongRecOn with
 | ind n ih =>
  intro k hk
  rw [Cu.TT_eq v (by omega) (by omega)]
  have:Cu.eJ l (TV l) k=Cu.eJ l W k:=Cu.posS_congr v (by omega) (fun x hx hx2=>by
   have e:((x.toNat:Nat):Int)=x:=by omega
   have h1:=ih (l.len.toNat - x.toNat) (by omega) x.toNat (by omega)
   have h2:=(h x.toNat (by omega)).2
   rw [e] at h1 h2
   unfold TV
   rw [h1,h2]) _
  rw [this,(h k (by omega)).1]
def S0:Ge.Sec:=⟨0,List.replicate 9 (0,105)⟩
def l0:List Slc:=[⟨2000,S0⟩]
def p0:Pr:=⟨⟨#[112,108,97,110,107]⟩,40,100,50,0,[2000],[70]⟩
def c0:List Pr:=[p0]
def s0:Sw:=⟨4,5,2,500⟩
def r0:Rt:=⟨0,0,0⟩
theorem chk_S0:bq S0=0:=(Ge.sc_ok ⟨by decide,⟨by decide,by decide⟩,fun i h=>by
 have h:i < 9:=h
 match i,h with
 | 0,_=>rfl
 | 1,_=>rfl
 | 2,_=>rfl
 | 3,_=>rfl
 | 4,_=>rfl
 | 5,_=>rfl
 | 6,_=>rfl
 | 7,_=>rfl
 | 8,_=>rfl⟩ (by decide) (fun ⟨_,h⟩=>by rcases h with h|h<;>exact absurd h (by show ¬ (Ge.aO (0,105)=true);decide)) (fun i h=>by
 have h:i < 9:=h
 match i,h with
 | 0,_=>rfl
 | 1,_=>rfl
 | 2,_=>rfl
 | 3,_=>rfl
 | 4,_=>rfl
 | 5,_=>rfl
 | 6,_=>rfl
 | 7,_=>rfl
 | 8,_=>rfl)).symm
theorem chk_l0:aX l0=0:=by
 unfold aX
 rw [if_neg (by decide),if_neg (by decide)]
 unfold l0 Ge.eW
 rw [if_neg (fun h=>h chk_S0),if_neg (by decide),if_neg (by decide)]
 rfl
theorem bd_l0:sbS l0=((0,105),(0,90)):=by
 unfold sbS
 rw [Ge.gC chk_l0]
 show Ge.ir (Ge.bdS S0) (Ge.bdS S0)=_
 unfold Ge.bdS
 rw [Ge.gL chk_S0]
 kernel_rfl
theorem len_l0:aw l0=2000:=by unfold aw;rw [Ge.gC chk_l0];rfl
theorem nums_p0:dY p0=0:=by decide +kernel
theorem name_p0:Ge.eT p0.name=true:=Ge.name_yes ⟨by decide,by decide,rfl,fun i h1 h2=>by
 have h2:i < 5:=h2
 match i,h1,h2 with
 | 1,_,_=>rfl
 | 2,_,_=>rfl
 | 3,_,_=>rfl
 | 4,_,_=>rfl⟩
theorem chk_c0:prE c0=0:=by
 unfold prE
 rw [if_neg (by decide)]
 unfold c0 prG
 rw [if_neg (by rw [name_p0];decide),if_neg (by decide),if_pos nums_p0]
 rfl
theorem hy0:Hy l0 [] c0 s0 r0:=⟨chk_l0,by rfl,chk_c0,by unfold SwOk;decide,by unfold RtOk;decide⟩
theorem green_p0:aW p0=(42,105):=by decide +kernel
theorem hs0:aE c0=[42,105]:=by
 unfold aE
 have e:gy c0 c0.length=[42,105]:=by decide +kernel
 rw [e,List.mergeSort_of_pairwise (by decide)]
 decide +kernel
theorem sz0:cB c0 42=[(105,0)]:=by decide +kernel
def wd0 (q:Nat):Int:=Ge.inV S0 (0,105) (0+(q:Int),0+((q:Int)+42))
theorem full0:∀ q:Nat,q≤48→wd0 q=4410:=by unfold wd0;decide +kernel
theorem zones0 {q:Nat} (hq:q≤48):zonesS l0 (0,105) (0+(q:Int),0+((q:Int)+42))=[⟨0,2000,0⟩]:=by
 show []++[zoneS l0 (0,105) (0+(q:Int),0+((q:Int)+42)) 0]=_
 rw [List.nil_append]
 congr 1
 unfold zoneS
 have e1:Ge.inS (Ge.cZ l0 0) (0,105) (0+(q:Int),0+((q:Int)+42))=4410:=by
  show Ge.inS S0 _ _=_
  rw [Ge.inS_ok chk_S0];exact full0 q hq
 have e2:fD (0,105) (0+(q:Int),0+((q:Int)+42))=4410:=by
  unfold fD;dsimp only;omega
 rw [e1,e2];rfl
theorem wb0 {q:Nat} (hq:q≤48):(wbS l0 [] p0 (0,105) (0+(q:Int),0+((q:Int)+42)) 500 0).2=(70,true):=by
 unfold wbS
 have e:vwOf l0 [] p0 (0,105) (0+(q:Int),0+((q:Int)+42))=⟨p0,(0,105),(0+(q:Int),0+((q:Int)+42)),2000,[⟨0,2000,0⟩],[]⟩:=by
  unfold vwOf;rw [len_l0,zones0 hq];rfl
 rw [e]
 rfl
theorem gain0 {q:Nat} (hq:q≤48):eR l0 [] p0 (0,105) (0+(q:Int),0+((q:Int)+42)) s0 r0=70000000:=by
 have hw:=wb0 hq
 unfold eR
 rw [show s0.step=500 from rfl,show r0.fine=0 from rfl,show r0.dust=0 from rfl,show r0.chip=0 from rfl]
 rw [if_pos (by rw [hw]),hw,Int.zero_mul,Int.zero_mul];rfl
def EL:Cu.Line:=⟨105,4,1,[105],[[70000000]],List.replicate 105 0,List.replicate 105 0⟩
theorem genN_const {α:Type} (x:α) {f:Nat→α}:∀ n,(∀ i,i < n→f i=x)→aN f n=List.replicate n x
 | 0,_=>rfl
 | n+1,h=>by
  rw [aN,genN_const x n (fun i hi=>h i (by omega)),h n (by omega),List.replicate_succ']
theorem el0 {q:Nat} (hq:q≤48):aU l0 [] c0 (0,105) (0+(q:Int),0+((q:Int)+42)) s0 r0=EL:=by
 unfold aU EL
 dsimp only
 have eh:0+((q:Int)+42) - (0+(q:Int))=42:=by omega
 have e1:∀ n,aN (dU l0 (0,105) (0+(q:Int),0+((q:Int)+42)) 0) n=List.replicate n 0:=fun n=>genN_const 0 n (fun i _=>by unfold dU;rw [Int.zero_mul])
 rw [show r0.chip=0 from rfl,show r0.dust=0 from rfl,e1,eh,sz0]
 have e2:aN (gi l0 [] c0 (0,105) (0+(q:Int),0+((q:Int)+42)) s0 r0) 1=[[70000000]]:=by
  show []++[gi l0 [] c0 (0,105) (0+(q:Int),0+((q:Int)+42)) s0 r0 0]=_
  rw [List.nil_append]
  unfold gi
  dsimp only
  rw [eh,sz0]
  show [aN (f8 l0 [] c0 (0,105) (0+(q:Int),0+((q:Int)+42)) s0 r0 105 0) 1]=_
  show [[]++[f8 l0 [] c0 (0,105) (0+(q:Int),0+((q:Int)+42)) s0 r0 105 0 0]]=_
  rw [List.nil_append]
  unfold f8
  rw [if_pos (by decide)]
  show [[eR l0 [] p0 (0,105) (0+(q:Int),0+((q:Int)+42)) s0 r0]]=_
  rw [gain0 hq]
 rw [show ([((105:Int),(0:Int))]:List (Int×Int)).length=1 from rfl,e2]
 rfl
theorem el_choose (V:Int→Int):Cu.eJ EL V 0=(0,0,70000000):=by kernel_rfl
theorem valid_EL:Cu.Valid EL:=by
 rw [← el0 (q:=0) (by decide)]
 exact eH hy0 (by unfold aJ;decide) (by unfold aJ;decide)
theorem tt_EL:TT EL 0=(0,0,70000000):=by
 rw [Cu.TT_eq valid_EL (by decide) (by decide)];exact el_choose _
theorem tv_EL:TV EL 0=70000000:=by unfold TV;rw [tt_EL]
theorem eP0 {q:Nat} (hq:q≤48):eP l0 [] c0 (0,105) (0+(q:Int),0+((q:Int)+42)) s0 r0=[(0,0)]:=by
 unfold eP
 rw [el0 hq]
 show bC EL (106+1) 0=_
 rw [Cu.gZ (by decide) (by rw [tt_EL];decide),tt_EL]
 show (0,0)::bC EL 106 (Cu.aA EL 105)=_
 rw [Cu.dt (.inl (by decide))]
theorem eN0 {q:Nat} (hq:q≤48):bV l0 [] c0 (0,105) (0+(q:Int),0+((q:Int)+42)) s0 r0=[(1,0)]:=by
 unfold bV ePs
 rw [eP0 hq,el0 hq]
 dsimp only
 rw [show 0+((q:Int)+42) - (0+(q:Int))=42 by omega,sz0]
 rfl
def rowP (p:Nat):Int:=if (p:Int).tmod 2=0 then 70000000 else -1
def PL0:Cu.Line:=⟨90,4,1,[42,105],[aN rowP 49,[]],List.replicate 90 0,List.replicate 90 0⟩
theorem row0 {q:Nat} (hq:q≤48):ei l0 [] c0 (0,105) (0,90) s0 r0 42 q=rowP q:=by
 unfold ei rowP
 have e:pOk l0 [] c0 (0,105) (0,90) s0 r0 42 q↔(q:Int).tmod 2=0:=by
  unfold pOk
  dsimp only
  rw [eN0 hq,show s0.pitch=2 from rfl]
  exact ⟨fun h=>h.1,fun h=>⟨h,by decide,by decide⟩⟩
 by_cases h:(q:Int).tmod 2=0
 ·rw [if_pos (e.2 h),if_pos h]
  dsimp only
  rw [el0 hq,tv_EL]
 ·rw [if_neg (fun hh=>h (e.1 hh)),if_neg h]
theorem pl0:bh l0 [] c0 (0,105) (0,90) s0 r0=PL0:=by
 unfold bh PL0
 dsimp only
 have e1:∀ n,aN (dW l0 (0,105) (0,90) 0) n=List.replicate n 0:=fun n=>genN_const 0 n (fun i _=>by unfold dW;rw [Int.zero_mul])
 rw [show r0.chip=0 from rfl,show r0.dust=0 from rfl,e1,hs0]
 have e2:aN (fG l0 [] c0 (0,105) (0,90) s0 r0) 2=[aN rowP 49,[]]:=by
  show ([]++[fG l0 [] c0 (0,105) (0,90) s0 r0 0])++[fG l0 [] c0 (0,105) (0,90) s0 r0 1]=_
  unfold fG
  rw [hs0]
  show ([]++[aN (ei l0 [] c0 (0,105) (0,90) s0 r0 42) 49])++[aN (ei l0 [] c0 (0,105) (0,90) s0 r0 105) 0]=_
  rw [genN_congr 49 (fun i hi=>row0 (q:=i) (by omega))]
  rfl
 rw [show ([(42:Int),105]:List Int).length=2 from rfl,e2]
 rfl
def V0 (e:Int):Int:=if e=0∨e=2 then 140000000 else if (e.tmod 2=0∧e≤48)∨(e.tmod 2≠0∧e≤43) then 70000000 else 0
def U0 (e:Int):Cu.Ch:=if e.tmod 2=0∧e≤48 then (0,e,V0 e) else if e.tmod 2≠0∧e≤43 then (0,e+5,V0 e) else (-1,-1,0)
theorem tab0:∀ k:Nat,k≤90→Cu.eJ PL0 V0 k=U0 k∧(U0 k).2.2=V0 k:=by decide +kernel
theorem valid_PL:Cu.Valid PL0:=by
 rw [← pl0]
 exact dg hy0 (by unfold aJ;decide) (by unfold aJ;decide)
theorem tt_PL (k:Nat) (hk:k≤90):TT PL0 k=U0 k:=TT_table valid_PL V0 U0 tab0 (90 - k) k (by show 90 - k+k=90;omega)
theorem pP0:pP l0 [] c0 (0,105) (0,90) s0 r0=[(0,0),(0,46)]:=by
 unfold pP
 rw [pl0]
 have t0:TT PL0 0=(0,0,140000000):=tt_PL 0 (by decide)
 have t1:TT PL0 46=(0,46,70000000):=tt_PL 46 (by decide)
 have t2:TT PL0 90=(-1,-1,0):=tt_PL 90 (by decide)
 show bC PL0 (91+1) 0=_
 rw [Cu.gZ (by decide) (by rw [t0];decide),t0]
 show (0,0)::bC PL0 (90+1) 46=_
 rw [Cu.gZ (by decide) (by rw [t1];decide),t1]
 show (0,0)::(0,46)::bC PL0 90 90=_
 rw [Cu.dt (.inr (by rw [t2];decide))]
theorem pVal0:pVal l0 [] c0 (0,105) (0,90) s0 r0=140000000:=by
 unfold pVal
 rw [pl0,show r0.chip=0 from rfl,Int.zero_mul]
 unfold TV
 rw [show TT PL0 0=(0,0,140000000) from tt_PL 0 (by decide)];rfl
theorem pN0:(ee l0 [] c0 (0,105) (0,90) s0 r0).length=5:=by
 rw [ga hy0 (by unfold aJ;decide) (by unfold aJ;decide)]
 unfold pTree pTs
 rw [pP0]
 have e:∀ q:Nat,q≤48→aq (fx l0 [] c0 (0,105) (0+(q:Int),0+((q:Int)+42)) s0 r0)=[(1,0)]:=fun q hq=>by rw [← eNodes_T];exact eN0 hq
 have e0:=e 0 (by decide)
 have e1:=e 46 (by decide)
 unfold dV dE
 rw [pl0]
 show (aq (bM 4 3 90 0 [((0,42),fx l0 [] c0 (0,105) (0+((0:Nat):Int),0+(((0:Nat):Int)+42)) s0 r0),((46,88),fx l0 [] c0 (0,105) (0+((46:Nat):Int),0+(((46:Nat):Int)+42)) s0 r0)])).length=5
 generalize fx l0 [] c0 (0,105) (0+((0:Nat):Int),0+(((0:Nat):Int)+42)) s0 r0=A1 at *
 generalize fx l0 [] c0 (0,105) (0+((46:Nat):Int),0+(((46:Nat):Int)+42)) s0 r0=A2 at *
 show (((3,42):Nd)::(aq A1++(((3,88):Nd)::(aq A2++[(0,0)])))).length=5
 rw [e0,e1];rfl
def T1:Tr:=.rip 3 42 (.leaf (1,0)) (.leaf (0,0))
theorem ok_T1:OkG s0.kerf (szB c0) ((0,105),(0,90)) T1:=by
 refine ⟨.inr rfl,by decide,by decide,.inr ⟨rfl,by decide,by decide,.inr ⟨?_,?_⟩⟩,.inl rfl⟩
 ·show (105:Int) - 0=(aW p0).2;rw [green_p0];rfl
 ·show (42:Int) - 0=(aW p0).1;rw [green_p0];rfl
theorem val_T1:yVal l0 s0 r0 (cG s0.kerf ((0,105),(0,90)) T1) (bdN l0 [] c0 s0 r0.fine (aC s0.kerf ((0,105),(0,90)) T1) (aC s0.kerf ((0,105),(0,90)) T1).length)=70000000:=by
 rw [yVal_eq hy0 ok_T1,show r0.chip=0 from rfl,Int.zero_mul,Int.add_zero]
 have hg:=gain0 (q:=0) (by decide)
 have hs:(bdF l0 [] c0 s0 r0.fine ((0,105),(0,42)) 0).isSome=true:=gain_some (r:=r0) (by show 0≤eR l0 [] p0 (0,105) (0+((0:Nat):Int),0+(((0:Nat):Int)+42)) s0 r0;rw [hg];decide)
 have hb:=val_board (r:=r0) hs
 unfold gN at hb ⊢
 unfold T1
 rw [valT_rip]
 show iA _ _ _ _ _ ((0,105),(0,42)) (.leaf (1,0))+r0.dust * _+(if (0:Int)=0 then r0.chip * _ else _)=_
 rw [hb,if_pos rfl,show r0.chip=0 from rfl,show r0.dust=0 from rfl,Int.zero_mul,Int.zero_mul]
 show eR l0 [] p0 (0,105) (0+((0:Nat):Int),0+(((0:Nat):Int)+42)) s0 r0+0+0=_
 rw [hg];rfl
end Go.Proofs.YtdndfncpglfdeaaGreatDoor.Tp

namespace Go.Proofs.YtdndfncpglfdeaaGreatDoor.Tp
set_option linter.unusedVariables false
set_option linter.unusedSimpArgs false
open Go.RowKit Go.Proofs.YtdndfncpglfdeaaGreatDoor.Ev
open Go.Proofs.YtdndfncpglfdeaaGreatDoor.Cu (I LI LS gw ce)
open Go.Proofs.YtdndfncpglfdeaaGreatDoor.Ge (an aG Slc Dfc dfC LL LD slcC aw aX ey Sec sbS)
variable {gl:List (Nat×List CV)}
theorem con_sub {P:Program} {gl:List (Nat×List CV)} {f:FuncId} {args args':List CV} {r:CV} (hl:args'.length=args.length) (h:∀ (F:Nat→Prop) (w:World) (i:Nat) (x x':CV) (u:Value),args[i]?=some x→args'[i]?=some x'→RC F w x' u→RC F w x u) (hc:bm P gl f args r):bm P gl f args' r :=
 ⟨hc.1,fun w F vals h1 h2 h3 h4=>hc.2 w F vals h1 h2 (hl ▸ h3) (fun i x u hx hu=>by
  have hi:i < args'.length:=by rw [hl];exact (List.getElem?_eq_some_iff.1 hx).1
  exact h F w i x args'[i] u hx (List.getElem?_eq_getElem hi) (h4 i _ u (List.getElem?_eq_getElem hi) hu))⟩
theorem rc_nil {F:Nat→Prop} {w:World} {n:Nat} {u:Value} (h:RC F w (.v (.slice none 0 0)) u):RC F w (.lst n []) u:=by
 cases h;exact .nil
theorem rc_agg {F:Nat→Prop} {w:World} {xs ys:List CV} {u:Value} (hl:ys.length=xs.length) (h:∀ (i:Nat) (x y:CV) (v:Value),xs[i]?=some x→ys[i]?=some y→RC F w y v→RC F w x v) (hr:RC F w (.agg ys) u):RC F w (.agg xs) u:=by
 cases hr with
 | agg h1 h2 =>
  refine .agg (by omega) fun i x v hx hv=>?_
  have hi:i < ys.length:=by rw [hl];exact (List.getElem?_eq_some_iff.1 hx).1
  exact h i x ys[i] v hx (List.getElem?_eq_getElem hi) (h2 i _ v (List.getElem?_eq_getElem hi) hv)
theorem block_con:bm Tryz.prog gl 17 [I 2000,I 0,I 9,.agg [I 0,I 105]] (LL l0):=by
 refine ao Tryz.func17 rfl (by kernel_rfl) rfl ?_
 simp only [Tryz.ntmps17,Tryz.results17,am,ofC,aZ,List.map]
 repeat' (first
 | (refine zs ?_)
 | fail
 )
 refine bO 1 2 35 2 rfl rfl rfl rfl ?_
 refine au (G:=Nat) (fun (j:Nat)=>j≤9) (fun (j:Nat)=>9 - j) (fun (j:Nat)=>[(2,A 9),(7,.ptr 0 0),(9,.ptr 1 0),(10,A j)]) (fun (j:Nat)=>[(1,some (.cells 123 [A 2000,A 0,.vec 2 j])),(2,some (.vec 35 2 ((List.replicate j ((0,105):an)).flatMap gw))),(0,some (.cells 35 [A 0,A 105]))]) 3 0 ?_ (by refine ak rfl ?_ ?_<;>repeat (first|exact ai|exact ac|refine ae rfl rfl ?_|refine ab rfl rfl rfl ?_)) rfl ?_
 ·exact Nat.zero_le _
 rintro j hI
 try dsimp only at hI
 try dsimp only
 have l1:(List.replicate j ((0,105):an)).length=j:=List.length_replicate ..
 by_cases hj:j < 9
 ·skip
  repeat' (first
 | ((with_reducible apply bg);iterate 7 exact rfl)
 | ((with_reducible apply (aH (enc:=gw) (l2:=[((0,105):an)])));exact rfl;exact rfl;exact inferInstance;exact l1;exact rfl;exact (by show _+1 < _;omega);exact (by show (_+1) * _≤_;omega);exact rfl)
 | (((with_reducible apply aa);exact rfl)<;>intro hg<;>(first|(exact absurd hg (by decide))|((try simp only [qz,ge_iff_le,List.cons.injEq,and_true] at hg);first|(exact absurd trivial hg)|(exfalso;omega)|(have hT:True:=hg;clear hT hg)|skip)))
 | (refine zs ?_)
 | fail
 )
  rw [show List.replicate j ((0,105):an)++[(0,105)]=List.replicate (j+1) (0,105) from List.replicate_succ'.symm]
  refine ⟨j+1,?_,?_,by refine ak rfl ?_ ?_<;>repeat (first|exact ai|exact ac|refine ae rfl rfl ?_|refine ab rfl rfl rfl ?_)⟩
  ·show 9 - (j+1) < 9 - j;omega
  ·show j+1≤9;omega
 obtain rfl:j=9:=by omega
 refine aw_freezecell 1 2 rfl rfl rfl (by rw [av EncL.len,l1]) rfl ?_
 repeat' (first
 | ((with_reducible apply bg);iterate 7 exact rfl)
 | (((with_reducible apply aa);exact rfl)<;>intro hg<;>(first|(exact absurd hg (by decide))|((try simp only [qz,ge_iff_le,List.cons.injEq,and_true] at hg);first|(exact absurd trivial hg)|(exfalso;omega)|(have hT:True:=hg;clear hT hg)|skip)))
 | (refine zs ?_)
 | fail
 )
 all_goals exact cL (.tmp rfl ap)
theorem plank_con:bm Tryz.prog gl 18 [] (fj c0):=by
 refine ao Tryz.func18 rfl (by kernel_rfl) rfl ?_
 simp only [Tryz.ntmps18,Tryz.results18,am,ofC,aZ,List.map]
 repeat' (first
 | ((with_reducible apply bg);iterate 7 exact rfl)
 | (refine zs ?_)
 | fail
 )
 all_goals exact cL (.tmp rfl ap)
abbrev wd0C:CV:=.agg [LL l0,nilV,fj c0,I 4,I 5,I 2,I 500,I 0,I 0,I 0]
theorem value0_con {X Y:an} {T:Tr} (hX:aJ X) (hY:aJ Y) (hT:OkG s0.kerf (szB c0) (X,Y) T) (hN:(aq T).length≤127) :
  bm Tryz.prog gl 8 [wd0C,fI X Y (aq T)] (.tup [I (yVal l0 s0 r0 (cG s0.kerf (X,Y) T) (bdN l0 [] c0 s0 r0.fine (aC s0.kerf (X,Y) T) (aC s0.kerf (X,Y) T).length)),I 0]):=by
 refine con_sub (args:=[wdC l0 [] c0 s0 r0,fI X Y (aq T)]) rfl ?_ (value_con (gl:=gl) hy0 hX hY hT hN)
 intro F w i x x' u h1 h2 hr
 match i with
 | 0 =>
  simp at h1 h2;subst h1;subst h2
  refine rc_agg (ys:=[LL l0,nilV,fj c0,I 4,I 5,I 2,I 500,I 0,I 0,I 0]) (xs:=wdL l0 [] c0 s0 r0) rfl (fun i x y v h1 h2 hr=>?_) hr
  match i with
  | 0=>simp [wdL] at h1 h2;subst h1;subst h2;exact hr
  | 1=>simp [wdL] at h1 h2;subst h1;subst h2;exact rc_nil hr
  | 2=>simp [wdL] at h1 h2;subst h1;subst h2;exact hr
  | 3=>simp [wdL] at h1 h2;subst h1;subst h2;exact hr
  | 4=>simp [wdL] at h1 h2;subst h1;subst h2;exact hr
  | 5=>simp [wdL] at h1 h2;subst h1;subst h2;exact hr
  | 6=>simp [wdL] at h1 h2;subst h1;subst h2;exact hr
  | 7=>simp [wdL] at h1 h2;subst h1;subst h2;exact hr
  | 8=>simp [wdL] at h1 h2;subst h1;subst h2;exact hr
  | 9=>simp [wdL] at h1 h2;subst h1;subst h2;exact hr
  | i+10=>simp [wdL] at h1
 | 1=>simp at h1 h2;subst h1;subst h2;exact hr
 | i+2=>simp at h1
theorem best0_con:bm Tryz.prog Cu.G 7 [LL l0,nilV,fj c0,.agg [I 0,I 105,I 0,I 90],.agg [I 4,I 5,I 2,I 500],.agg [I 0,I 0,I 0]] (.tup [patC (0,105) (0,90) (ee l0 [] c0 (0,105) (0,90) s0 r0),I 140000000,I 0]):=by
 have hX:aJ (0,105):=by unfold aJ;decide
 have hY:aJ (0,90):=by unfold aJ;decide
 have c1:=pbest_con hy0 (0,105) (0,90) hX hY (by decide) (dg hy0 hX hY) (p_fits hy0 hX hY)
 rw [if_pos (by rw [pN0];decide),pVal0] at c1
 refine con_sub (args:=[LL l0,LD [],fj c0,.agg (cQ (0,105) (0,90)),swC s0,rtC r0]) rfl ?_ c1
 intro F w i x x' u h1 h2 hr
 match i with
 | 0=>simp at h1 h2;subst h1;subst h2;exact hr
 | 1=>simp at h1 h2;subst h1;subst h2;exact rc_nil hr
 | 2=>simp at h1 h2;subst h1;subst h2;exact hr
 | 3=>simp [cQ] at h1 h2;subst h1;subst h2;exact hr
 | 4=>simp [swL,s0] at h1 h2;subst h1;subst h2;exact hr
 | 5=>simp [rtL,r0] at h1 h2;subst h1;subst h2;exact hr
 | i+6=>simp at h1
theorem awake_con:bm Tryz.prog Cu.G 5 [] (BO true):=by
 have hX:aJ (0,105):=by unfold aJ;decide
 have hY:aJ (0,90):=by unfold aJ;decide
 have c1:=block_con (gl:=Cu.G)
 have c2:=plank_con (gl:=Cu.G)
 have c3:=frame_con (gl:=Cu.G) l0 (by decide)
 rw [bd_l0] at c3
 have c4:=best0_con
 have c5:=value0_con (gl:=Cu.G) hX hY (p_okG hy0 hX hY) (by rw [← ga hy0 hX hY,pN0];decide)
 rw [p_yield hy0 hX hY,pVal0,← ga hy0 hX hY] at c5
 have c6:=value0_con (gl:=Cu.G) hX hY ok_T1 (by decide)
 rw [val_T1] at c6
 have hl:=pN0
 generalize ee l0 [] c0 (0,105) (0,90) s0 r0=N at *
 unfold patC patL at c4
 refine ao Tryz.func5 rfl (by kernel_rfl) rfl ?_
 simp only [Tryz.ntmps5,Tryz.results5,am,ofC,aZ,List.map]
 repeat' (first
 | (refine aw_drawV [1] [0,1,2,3,4,5,6,7,8,9,10,11,12,13] [14,15] 4 _ ?_ rfl rfl ?_;(decide +kernel);(simp only [pk,List.drop_succ_cons,List.drop_zero,List.map_cons,List.map_nil,List.cons_append,List.nil_append]))
 | ((with_reducible apply ig))
 | ((with_reducible apply gT))
 | ((with_reducible apply ds_nilV))
 | ((with_reducible apply d4_nil);(decide +kernel))
 | (first|(refine ay [16] (by decide +kernel) rfl ?_)|(refine ay [17] (by decide +kernel) rfl ?_)|(refine ay [18] (by decide +kernel) rfl ?_)|(refine ay [19] (by decide +kernel) rfl ?_)|(refine ay [16,17] (by decide +kernel) rfl ?_)|(refine ay [16,18] (by decide +kernel) rfl ?_)|(refine ay [16,19] (by decide +kernel) rfl ?_)|(refine ay [17,18] (by decide +kernel) rfl ?_)|(refine ay [17,19] (by decide +kernel) rfl ?_)|(refine ay [18,19] (by decide +kernel) rfl ?_)|(refine ay [16,17,18] (by decide +kernel) rfl ?_)|(refine ay [16,17,19] (by decide +kernel) rfl ?_)|(refine ay [16,18,19] (by decide +kernel) rfl ?_)|(refine ay [17,18,19] (by decide +kernel) rfl ?_))
 | ((with_reducible refine List.forall_mem_cons.2 ⟨?_,?_⟩))
 | ((with_reducible exact d4_none))
 | ((with_reducible apply d4_a);exact rfl;exact inferInstance;exact rfl)
 | ((with_reducible apply d4_pa);exact rfl;exact inferInstance;iterate 8 exact rfl)
 | ((with_reducible apply d4_p);exact rfl;exact inferInstance;iterate 8 exact rfl)
 | ((with_reducible apply d4_q);exact rfl;(simp only [pk,List.drop_succ_cons,List.drop_zero]))
 | ((with_reducible apply bg);iterate 7 exact rfl)
 | ((with_reducible apply (ah (f:=17)));exact rfl;exact rfl;exact c1;exact rfl;exact rfl)
 | ((with_reducible apply (ah (f:=18)));exact rfl;exact rfl;exact c2;exact rfl;exact rfl)
 | ((with_reducible apply (ah (f:=6)));exact rfl;exact rfl;exact c3;exact rfl;exact rfl)
 | ((with_reducible apply (ah (f:=7)));exact rfl;exact rfl;exact c4;exact rfl;exact rfl)
 | ((with_reducible apply (ah (f:=8)));exact rfl;exact rfl;(first|exact c5|exact c6);exact rfl;exact rfl)
 | (((with_reducible apply aj);iterate 4 exact rfl)<;>intro hg<;>(first|(exact absurd hg (by decide))|((try simp only [qz,ge_iff_le,List.cons.injEq,and_true] at hg);first|(exact absurd trivial hg)|(exfalso;omega)|(have hT:True:=hg;clear hT hg)|skip)))
 | (refine zs ?_)
 | fail
 )
 all_goals first|exact aK rfl (by simp [hl])|exact aK rfl (by simp [hl]).symm
end Go.Proofs.YtdndfncpglfdeaaGreatDoor.Tp
