/- RB: texts laid together. -/
import Derived.Test.YtdndfncpglfdeaaGreatDoorMrgX13
import Derived.Test.YtdndfncpglfdeaaGreatDoorMrgS
set_option maxRecDepth 100000
set_option maxHeartbeats 64000000

namespace Go.Proofs.YtdndfncpglfdeaaGreatDoor.Tp
set_option linter.unusedVariables false
set_option linter.unusedSimpArgs false
open Go.RowKit Go.Proofs.YtdndfncpglfdeaaGreatDoor.Ev
open Go.Proofs.YtdndfncpglfdeaaGreatDoor.Cu (I LI LS gw ce)
open Go.Proofs.YtdndfncpglfdeaaGreatDoor.Ge (an aG)
variable {gl:List (Nat×List CV)}
theorem samenodes_con (a b:List Nd) (ha:a.length≤100000) (hb:b.length≤100000):bm Tryz.prog gl 75 [fY a,fY b] (BO (decide (a=b))):=by
 by_cases hlen:a.length=b.length
 ·skip
  refine ao Tryz.func75 rfl (by kernel_rfl) rfl ?_
  simp only [Tryz.ntmps75,Tryz.results75,am,ofC,aZ,List.map]
  repeat' (first
 | (((with_reducible apply aa);exact rfl)<;>intro hg<;>(first|(exact absurd hg (by decide))|((try simp only [qz,ge_iff_le,List.cons.injEq,and_true] at hg);first|(exact absurd trivial hg)|(exfalso;omega)|(have hT:True:=hg;clear hT hg)|skip)))
 | (refine zs ?_)
 | fail
 )
  refine au (G:=Nat) (fun (j:Nat)=>j≤a.length∧∀ i (hi:i < a.length) (hi2:i < b.length),i < j→a[i]=b[i]) (fun (j:Nat)=>a.length - j) (fun (j:Nat)=>[(0,.c (fY a)),(1,.c (fY b)),(5,A j)]) (fun (j:Nat)=>[]) 0 0 ?_ (by refine ak rfl ?_ ?_<;>repeat (first|exact ai|exact ac|refine ae rfl rfl ?_|refine ab rfl rfl rfl ?_)) rfl ?_
  ·exact ⟨Nat.zero_le _,fun i _ _ h=>absurd h (Nat.not_lt_zero _)⟩
  rintro j hI
  try dsimp only at hI
  try dsimp only
  obtain ⟨hj,hall⟩:=hI
  by_cases hjl:j < a.length
  ·have hjb:j < b.length:=by omega
   by_cases hx:a[j].1=b[j].1∧a[j].2=b[j].2
   ·obtain ⟨x1,x2⟩:=hx
    repeat' (first
 | (((with_reducible apply aa);exact rfl)<;>intro hg<;>(first|(exact absurd hg (by decide))|((try simp only [qz,ge_iff_le,List.cons.injEq,and_true] at hg);first|(exact absurd trivial hg)|(exfalso;omega)|(have hT:True:=hg;clear hT hg)|skip)))
 | (refine zs ?_)
 | fail
 )
    refine ⟨j+1,?_,?_,by refine ak rfl ?_ ?_<;>repeat (first|exact ai|exact ac|refine ae rfl rfl ?_|refine ab rfl rfl rfl ?_)⟩
    ·show a.length - (j+1) < a.length - j;omega
    ·refine ⟨hjl,fun i hi hi2 hij=>?_⟩
     by_cases h:i=j
     ·subst h;exact Prod.ext x1 x2
     ·exact hall i hi hi2 (by omega)
   ·have hm:decide (a=b)=false:=by
     rw [decide_eq_false_iff_not]
     intro h;subst h;exact hx ⟨rfl,rfl⟩
    rw [hm]
    repeat' (first
 | (((with_reducible apply aa);exact rfl)<;>intro hg<;>(first|(exact absurd hg (by decide))|((try simp only [qz,ge_iff_le,List.cons.injEq,and_true] at hg);first|(exact absurd trivial hg)|(exfalso;omega)|(have hT:True:=hg;clear hT hg)|skip)))
 | (refine zs ?_)
 | fail
 )
    all_goals exact aK rfl rfl
  ·have hm:decide (a=b)=true:=by
    rw [decide_eq_true_eq]
    exact List.ext_getElem hlen fun i h1 h2=>hall i h1 h2 (by omega)
   rw [hm]
   repeat' (first
 | (((with_reducible apply aa);exact rfl)<;>intro hg<;>(first|(exact absurd hg (by decide))|((try simp only [qz,ge_iff_le,List.cons.injEq,and_true] at hg);first|(exact absurd trivial hg)|(exfalso;omega)|(have hT:True:=hg;clear hT hg)|skip)))
 | (refine zs ?_)
 | fail
 )
   all_goals exact aK rfl rfl
 ·rw [decide_eq_false (fun h=>hlen (by rw [h]))]
  refine ao Tryz.func75 rfl (by kernel_rfl) rfl ?_
  simp only [Tryz.ntmps75,Tryz.results75,am,ofC,aZ,List.map]
  repeat' (first
 | (((with_reducible apply aa);exact rfl)<;>intro hg<;>(first|(exact absurd hg (by decide))|((try simp only [qz,ge_iff_le,List.cons.injEq,and_true] at hg);first|(exact absurd trivial hg)|(exfalso;omega)|(have hT:True:=hg;clear hT hg)|skip)))
 | (refine zs ?_)
 | fail
 )
  all_goals exact aK rfl rfl
def treeS:Nat→List Nd→Option Nat
 | 0,_=>some 0
 | _+1,[]=>none
 | o+1,n::l=>(treeS (if n.1=2∨n.1=3 then o+2 else o) l).map (·+1)
def cM (N:List Nd) (o j:Nat):Int:=match treeS o (N.drop j) with|some m=>((j+m:Nat):Int)|none=>-1
theorem treeR_0 (N:List Nd) (j:Nat):cM N 0 j=j:=by
 unfold cM
 cases h:N.drop j<;>simp [treeS]
theorem treeR_end (N:List Nd) (o j:Nat) (h:N.length≤j):cM N (o+1) j=-1:=by
 unfold cM
 rw [List.drop_eq_nil_of_le h];rfl
theorem ic (N:List Nd) (o j:Nat) (h:j < N.length):cM N (o+1) j=cM N (if N[j].1=2∨N[j].1=3 then o+2 else o) (j+1):=by
 unfold cM
 rw [List.drop_eq_getElem_cons h]
 simp only [treeS]
 cases treeS (if N[j].1=2∨N[j].1=3 then o+2 else o) (N.drop (j+1)) with
 | none=>rfl
 | some m=>show ((j+(m+1):Nat):Int)=((j+1+m:Nat):Int);omega
theorem tree_con (N:List Nd) (i:Nat) (hN:N.length≤100000) (hi:i≤N.length):bm Tryz.prog gl 72 [fY N,I i] (I (cM N 1 i)):=by
 generalize hR:cM N 1 i=R
 refine ao Tryz.func72 rfl (by kernel_rfl) rfl ?_
 simp only [Tryz.ntmps72,Tryz.results72,am,ofC,aZ,List.map]
 repeat' (first
 | (refine zs ?_)
 | fail
 )
 refine au (G:=Nat×Nat) (fun ((o,j):Nat×Nat)=>j≤N.length∧cM N o j=R∧o≤j+1) (fun ((o,j):Nat×Nat)=>N.length - j) (fun ((o,j):Nat×Nat)=>[(0,.c (fY N)),(1,A j),(5,A o)]) (fun ((o,j):Nat×Nat)=>[]) 0 (1,i) ?_ (by refine ak rfl ?_ ?_<;>repeat (first|exact ai|exact ac|refine ae rfl rfl ?_|refine ab rfl rfl rfl ?_)) rfl ?_
 ·exact ⟨hi,hR,by show 1≤i+1;omega⟩
 rintro ⟨o,j⟩ hI
 try dsimp only at hI
 try dsimp only
 obtain ⟨hj,hr,ho⟩:=hI
 cases o with
 | zero =>
  rw [treeR_0] at hr
  rw [← hr]
  repeat' (first
 | (((with_reducible apply aa);exact rfl)<;>intro hg<;>(first|(exact absurd hg (by decide))|((try simp only [qz,ge_iff_le,List.cons.injEq,and_true] at hg);first|(exact absurd trivial hg)|(exfalso;omega)|(have hT:True:=hg;clear hT hg)|skip)))
 | (refine zs ?_)
 | fail
 )
  all_goals exact aB rfl rfl
 | succ o =>
  by_cases hjl:j < N.length
  ·rw [ic N o j hjl] at hr
   by_cases h2:N[j].1=2∨N[j].1=3
   ·rw [if_pos h2] at hr
    rcases h2 with h2|h2
    ·skip
     repeat' (first
 | ((first|((with_reducible apply aj);iterate 4 exact rfl)|((with_reducible apply aa);exact rfl))<;>intro hg<;>(first|(exact absurd hg (by decide))|((try simp only [qz,ge_iff_le,List.cons.injEq,and_true] at hg);first|(exact absurd trivial hg)|(exfalso;omega)|(have hT:True:=hg;clear hT hg)|skip)))
 | (refine zs ?_)
 | fail
 )
     refine ⟨(o+2,j+1),?_,?_,by refine ak rfl ?_ ?_<;>repeat (first|exact ai|exact ac|refine ae rfl rfl ?_|refine ab rfl rfl rfl ?_)⟩
     ·show N.length - (j+1) < N.length - j;omega
     ·exact ⟨hjl,hr,by show o+2≤j+1+1;omega⟩
    ·skip
     repeat' (first
 | ((first|((with_reducible apply aj);iterate 4 exact rfl)|((with_reducible apply aa);exact rfl))<;>intro hg<;>(first|(exact absurd hg (by decide))|((try simp only [qz,ge_iff_le,List.cons.injEq,and_true] at hg);first|(exact absurd trivial hg)|(exfalso;omega)|(have hT:True:=hg;clear hT hg)|skip)))
 | (refine zs ?_)
 | fail
 )
     refine ⟨(o+2,j+1),?_,?_,by refine ak rfl ?_ ?_<;>repeat (first|exact ai|exact ac|refine ae rfl rfl ?_|refine ab rfl rfl rfl ?_)⟩
     ·show N.length - (j+1) < N.length - j;omega
     ·exact ⟨hjl,hr,by show o+2≤j+1+1;omega⟩
   ·rw [if_neg h2] at hr
    repeat' (first
 | ((first|((with_reducible apply aj);iterate 4 exact rfl)|((with_reducible apply aa);exact rfl))<;>intro hg<;>(first|(exact absurd hg (by decide))|((try simp only [qz,ge_iff_le,List.cons.injEq,and_true] at hg);first|(exact absurd trivial hg)|(exfalso;omega)|(have hT:True:=hg;clear hT hg)|skip)))
 | (refine zs ?_)
 | fail
 )
    rw [show ((o+1:Nat):Int) - 1=(o:Int) by omega]
    refine ⟨(o,j+1),?_,?_,by refine ak rfl ?_ ?_<;>repeat (first|exact ai|exact ac|refine ae rfl rfl ?_|refine ab rfl rfl rfl ?_)⟩
    ·show N.length - (j+1) < N.length - j;omega
    ·exact ⟨hjl,hr,by show o≤j+1+1;omega⟩
  ·rw [treeR_end N o j (by omega)] at hr
   rw [← hr]
   repeat' (first
 | (((with_reducible apply aa);exact rfl)<;>intro hg<;>(first|(exact absurd hg (by decide))|((try simp only [qz,ge_iff_le,List.cons.injEq,and_true] at hg);first|(exact absurd trivial hg)|(exfalso;omega)|(have hT:True:=hg;clear hT hg)|skip)))
 | (refine zs ?_)
 | fail
 )
   all_goals exact aB rfl rfl
theorem treeR_bd (N:List Nd):∀ (f o j:Nat),N.length - j≤f→j≤N.length→(cM N o j=-1∨((j:Int)+(if o=0 then 0 else 1)≤cM N o j∧cM N o j≤N.length))
 | f,0,j,hf,hj=>by rw [treeR_0];right;simp;omega
 | 0,o+1,j,hf,hj=>by rw [treeR_end N o j (by omega)];exact .inl rfl
 | f+1,o+1,j,hf,hj=>by
  by_cases hjl:j < N.length
  ·rw [ic N o j hjl]
   rcases treeR_bd N f (if N[j].1=2∨N[j].1=3 then o+2 else o) (j+1) (by omega) hjl with h|⟨h1,h2⟩
   ·exact .inl h
   ·right
    rw [if_neg (by omega)]
    generalize (if N[j].1=2∨N[j].1=3 then o+2 else o)=q at *
    have:(0:Int)≤(if q=0 then 0 else 1):=by split<;>decide
    exact ⟨by omega,h2⟩
  ·rw [treeR_end N o j (by omega)];exact .inl rfl
abbrev Prt:=an×Int×Int
def ptC (x:Prt):List CV:=[I x.1.1,I x.1.2,I x.2.1,I x.2.2]
instance:EncL ptC 4:=⟨fun _=>rfl,by decide,fun _=>rfl⟩
abbrev LPt (l:List Prt):CV:=.lst 4 (l.flatMap ptC)
def unG (N:List Nd) (B ax k:Int):Nat→Nat→Int→Bool→List Prt→List Prt×Bool
 | 0,_,_,_,_=>([],false)
 | f+1,i,e,due,out =>
  if h:i < N.length then
   if N[i].1=0 then (out,!due && decide (i+1=N.length))
   else if N[i].1≠ax then (out++[((e,B),(i:Int),cM N 1 i)],decide (cM N 1 i=N.length))
   else if N[i].2≤e∨B≤N[i].2∨N.length≤i+1 then ([],false)
   else if h2:i+1 < N.length then
    if N[i+1].1=0 then (if due then ([],false) else unG N B ax k f (i+2) (min (N[i].2+k) B) true out)
    else if cM N 1 (i+1) < 0 then ([],false)
    else unG N B ax k f (cM N 1 (i+1)).toNat (min (N[i].2+k) B) false (out++[((e,N[i].2),((i+1:Nat):Int),cM N 1 (i+1))])
   else ([],false)
  else ([],false)
theorem unrow_con (N:List Nd) (A0 B ax k:Int) (hN:N.length≤127) (hA:-600≤A0) (hAB:A0 < B) (hB:B≤600) (hk:0≤k∧k≤20) :
  bm Tryz.prog gl 32 [fY N,.agg [I A0,I B],I ax,I k] (.tup [LPt (unG N B ax k (N.length+1) 0 A0 false []).1,BO (unG N B ax k (N.length+1) 0 A0 false []).2]):=by
 generalize hR:unG N B ax k (N.length+1) 0 A0 false []=R
 obtain ⟨R1,R2⟩:=R
 refine ao Tryz.func32 rfl (by kernel_rfl) rfl ?_
 simp only [Tryz.ntmps32,Tryz.results32,am,ofC,aZ,List.map]
 repeat' (first
 | (refine zs ?_)
 | fail
 )
 refine bo 10 96 4 rfl rfl ?_
 refine au (G:=Nat×Nat×Int×Bool×List Prt) (fun ((f,i,e,due,out):Nat×Nat×Int×Bool×List Prt)=>unG N B ax k f i e due out=(R1,R2)∧i≤N.length∧N.length+1≤f+i∧A0≤e∧e≤B∧out.length≤i) (fun ((f,i,e,due,out):Nat×Nat×Int×Bool×List Prt)=>f) (fun ((f,i,e,due,out):Nat×Nat×Int×Bool×List Prt)=>[(0,.c (fY N)),(2,A ax),(3,A k),(5,.ptr 0 0),(10,.vec 1 out.length),(11,A i),(12,A e),(13,.c (BO due))]) (fun ((f,i,e,due,out):Nat×Nat×Int×Bool×List Prt)=>[(1,some (.vec 96 4 (out.flatMap ptC))),(0,some (.cells 35 [A A0,A B]))]) 2 (N.length+1,0,A0,false,[]) ?_ (by refine ak rfl ?_ ?_<;>repeat (first|exact ai|exact ac|refine ae rfl rfl ?_|refine ab rfl rfl rfl ?_)) rfl ?_
 ·exact ⟨hR,Nat.zero_le _,by show _≤N.length+1+0;omega,Int.le_refl _,by omega,Nat.zero_le _⟩
 rintro ⟨f,i,e,due,out⟩ hI
 try dsimp only at hI
 try dsimp only
 obtain ⟨hr,hi,hf,he0,he1,hol⟩:=hI
 cases f with
 | zero=>exfalso;omega
 | succ f =>
 unfold unG at hr
 by_cases hil:i < N.length
 ·rw [dif_pos hil] at hr
  have cw:=waste_con (gl:=gl) N[i]
  have ct:=tree_con (gl:=gl) N i (by omega) hi
  by_cases h0:N[i].1=0
  ·rw [if_pos h0] at hr
   rw [decide_eq_true h0] at cw
   obtain ⟨rfl,rfl⟩:out=R1∧(!due && decide (i+1=N.length))=R2:=by injection hr with a b;exact ⟨a,b⟩
   cases due with
   | true =>
    repeat' (first
 | ((with_reducible apply (ah (f:=71)));exact rfl;exact rfl;exact cw;exact rfl;exact rfl)
 | ((first|((with_reducible apply aj);iterate 4 exact rfl)|((with_reducible apply aa);exact rfl))<;>intro hg<;>(first|(exact absurd hg (by decide))|((try simp only [qz,ge_iff_le,List.cons.injEq,and_true] at hg);first|(exact absurd trivial hg)|(exfalso;omega)|(have hT:True:=hg;clear hT hg)|skip)))
 | (refine zs ?_)
 | fail
 )
    all_goals exact bJ (.cons (.tmp rfl (bx rfl (av EncL.len _))) (.cons (.tmp rfl ap) .nil))
   | false =>
    by_cases hl:i+1=N.length
    ·rw [decide_eq_true hl]
     repeat' (first
 | ((with_reducible apply (ah (f:=71)));exact rfl;exact rfl;exact cw;exact rfl;exact rfl)
 | ((first|((with_reducible apply aj);iterate 4 exact rfl)|((with_reducible apply aa);exact rfl))<;>intro hg<;>(first|(exact absurd hg (by decide))|((try simp only [qz,ge_iff_le,List.cons.injEq,and_true] at hg);first|(exact absurd trivial hg)|(exfalso;omega)|(have hT:True:=hg;clear hT hg)|skip)))
 | (refine zs ?_)
 | fail
 )
     all_goals
      rw [show decide ((i:Int)=(N.length:Int) - 1)=true by rw [decide_eq_true_eq];omega]
      exact bJ (.cons (.tmp rfl (bx rfl (av EncL.len _))) (.cons (.tmp rfl ap) .nil))
    ·rw [decide_eq_false hl]
     repeat' (first
 | ((with_reducible apply (ah (f:=71)));exact rfl;exact rfl;exact cw;exact rfl;exact rfl)
 | ((first|((with_reducible apply aj);iterate 4 exact rfl)|((with_reducible apply aa);exact rfl))<;>intro hg<;>(first|(exact absurd hg (by decide))|((try simp only [qz,ge_iff_le,List.cons.injEq,and_true] at hg);first|(exact absurd trivial hg)|(exfalso;omega)|(have hT:True:=hg;clear hT hg)|skip)))
 | (refine zs ?_)
 | fail
 )
     all_goals
      rw [show decide ((i:Int)=(N.length:Int) - 1)=false by rw [decide_eq_false_iff_not];omega]
      exact bJ (.cons (.tmp rfl (bx rfl (av EncL.len _))) (.cons (.tmp rfl ap) .nil))
  ·rw [if_neg h0] at hr
   rw [decide_eq_false h0] at cw
   by_cases hax:N[i].1=ax
   ·rw [if_neg (fun hh=>hh hax)] at hr
    by_cases h1:N[i].2≤e∨B≤N[i].2∨N.length≤i+1
    ·rw [if_pos h1] at hr
     obtain ⟨rfl,rfl⟩:([]:List Prt)=R1∧false=R2:=by injection hr with a b;exact ⟨a,b⟩
     by_cases g1:N[i].2≤e
     ·skip
      repeat' (first
 | ((with_reducible apply (ah (f:=71)));exact rfl;exact rfl;exact cw;exact rfl;exact rfl)
 | ((first|((with_reducible apply aj);iterate 4 exact rfl)|((with_reducible apply aa);exact rfl))<;>intro hg<;>(first|(exact absurd hg (by decide))|((try simp only [qz,ge_iff_le,List.cons.injEq,and_true] at hg);first|(exact absurd trivial hg)|(exfalso;omega)|(have hT:True:=hg;clear hT hg)|skip)))
 | (refine zs ?_)
 | fail
 )
      all_goals exact bJ (.cons (.tmp rfl bP) (.cons (.tmp rfl ap) .nil))
     ·by_cases g2:B≤N[i].2
      ·skip
       repeat' (first
 | ((with_reducible apply (ah (f:=71)));exact rfl;exact rfl;exact cw;exact rfl;exact rfl)
 | ((first|((with_reducible apply aj);iterate 4 exact rfl)|((with_reducible apply aa);exact rfl))<;>intro hg<;>(first|(exact absurd hg (by decide))|((try simp only [qz,ge_iff_le,List.cons.injEq,and_true] at hg);first|(exact absurd trivial hg)|(exfalso;omega)|(have hT:True:=hg;clear hT hg)|skip)))
 | (refine zs ?_)
 | fail
 )
       all_goals exact bJ (.cons (.tmp rfl bP) (.cons (.tmp rfl ap) .nil))
      ·have g3:N.length≤i+1:=by omega
       repeat' (first
 | ((with_reducible apply (ah (f:=71)));exact rfl;exact rfl;exact cw;exact rfl;exact rfl)
 | ((first|((with_reducible apply aj);iterate 4 exact rfl)|((with_reducible apply aa);exact rfl))<;>intro hg<;>(first|(exact absurd hg (by decide))|((try simp only [qz,ge_iff_le,List.cons.injEq,and_true] at hg);first|(exact absurd trivial hg)|(exfalso;omega)|(have hT:True:=hg;clear hT hg)|skip)))
 | (refine zs ?_)
 | fail
 )
       all_goals exact bJ (.cons (.tmp rfl bP) (.cons (.tmp rfl ap) .nil))
    ·rw [if_neg h1] at hr
     have hi1:i+1 < N.length:=by omega
     rw [dif_pos hi1] at hr
     have cw2:=waste_con (gl:=gl) N[i+1]
     have ct2:=tree_con (gl:=gl) N (i+1) (by omega) (by omega)
     have hbd:=treeR_bd N N.length 1 (i+1) (by omega) (by omega)
     by_cases h2:N[i+1].1=0
     ·rw [if_pos h2] at hr
      rw [decide_eq_true h2] at cw2
      cases due with
      | true =>
       rw [if_pos rfl] at hr
       obtain ⟨rfl,rfl⟩:([]:List Prt)=R1∧false=R2:=by injection hr with a b;exact ⟨a,b⟩
       repeat' (first
 | ((with_reducible apply (bD (k:=i+1)));exact rfl;exact inferInstance;exact rfl;exact rfl;omega;exact rfl)
 | ((with_reducible apply (ah (f:=71)));exact rfl;exact rfl;(first|exact cw|exact cw2);exact rfl;exact rfl)
 | ((first|((with_reducible apply aj);iterate 4 exact rfl)|((with_reducible apply aa);exact rfl))<;>intro hg<;>(first|(exact absurd hg (by decide))|((try simp only [qz,ge_iff_le,List.cons.injEq,and_true] at hg);first|(exact absurd trivial hg)|(exfalso;omega)|(have hT:True:=hg;clear hT hg)|skip)))
 | (refine zs ?_)
 | fail
 )
       all_goals exact bJ (.cons (.tmp rfl bP) (.cons (.tmp rfl ap) .nil))
      | false =>
       rw [if_neg (by decide)] at hr
       repeat' (first
 | (refine aL (id:=15) 10 ?_ ?_;(kernel_rfl);(simp only [List.take_succ_cons,List.take_zero,List.drop_succ_cons,List.drop_zero]))
 | ((with_reducible apply (bD (k:=i+1)));exact rfl;exact inferInstance;exact rfl;exact rfl;omega;exact rfl)
 | ((with_reducible apply (ah (f:=71)));exact rfl;exact rfl;(first|exact cw|exact cw2);exact rfl;exact rfl)
 | ((first|((with_reducible apply aj);iterate 4 exact rfl)|((with_reducible apply aa);exact rfl))<;>intro hg<;>(first|(exact absurd hg (by decide))|((try simp only [qz,ge_iff_le,List.cons.injEq,and_true] at hg);first|(exact absurd trivial hg)|(exfalso;omega)|(have hT:True:=hg;clear hT hg)|skip)))
 | (refine zs ?_)
 | fail
 )
       refine ⟨(f,i+2,min (N[i].2+k) B,true,out),?_,?_,by refine ak rfl ?_ ?_<;>repeat (first|exact ai|exact ac|refine ae rfl rfl ?_|refine ab rfl rfl rfl ?_)⟩
       ·exact Nat.lt_succ_self f
       ·exact ⟨hr,by show i+2≤N.length;omega,by show N.length+1≤f+(i+2);omega,by show A0≤min _ _;omega,by show min _ _≤B;omega,by show out.length≤i+2;omega⟩
     ·rw [if_neg h2] at hr
      rw [decide_eq_false h2] at cw2
      rw [if_neg (by decide)] at hbd
      by_cases h3:cM N 1 (i+1) < 0
      ·rw [if_pos h3] at hr
       obtain ⟨rfl,rfl⟩:([]:List Prt)=R1∧false=R2:=by injection hr with a b;exact ⟨a,b⟩
       generalize cM N 1 (i+1)=E at *
       repeat' (first
 | ((with_reducible apply (bD (k:=i+1)));exact rfl;exact inferInstance;exact rfl;exact rfl;omega;exact rfl)
 | ((with_reducible apply (ah (f:=71)));exact rfl;exact rfl;(first|exact cw|exact cw2);exact rfl;exact rfl)
 | ((with_reducible apply (ah (f:=72)));exact rfl;exact rfl;exact ct2;exact rfl;exact rfl)
 | ((first|((with_reducible apply aj);iterate 4 exact rfl)|((with_reducible apply aa);exact rfl))<;>intro hg<;>(first|(exact absurd hg (by decide))|((try simp only [qz,ge_iff_le,List.cons.injEq,and_true] at hg);first|(exact absurd trivial hg)|(exfalso;omega)|(have hT:True:=hg;clear hT hg)|skip)))
 | (refine zs ?_)
 | fail
 )
       all_goals exact bJ (.cons (.tmp rfl bP) (.cons (.tmp rfl ap) .nil))
      ·rw [if_neg h3] at hr
       obtain ⟨m,hm⟩:∃ m:Nat,cM N 1 (i+1)=(m:Int):=⟨(cM N 1 (i+1)).toNat,by omega⟩
       rw [hm] at hr ct2 hbd
       repeat' (first
 | ((with_reducible apply (bD (k:=i+1)));exact rfl;exact inferInstance;exact rfl;exact rfl;omega;exact rfl)
 | (refine aL (id:=20) 9 ?_ ?_;(kernel_rfl);(simp only [List.take_succ_cons,List.take_zero,List.drop_succ_cons,List.drop_zero]))
 | ((with_reducible apply (ah (f:=71)));exact rfl;exact rfl;(first|exact cw|exact cw2);exact rfl;exact rfl)
 | ((with_reducible apply (ah (f:=72)));exact rfl;exact rfl;exact ct2;exact rfl;exact rfl)
 | ((with_reducible apply (dq (enc:=ptC) (x0:=((e,N[i].2),((i+1:Nat):Int),(m:Int)))));exact rfl;exact rfl;exact inferInstance;(iterate 4 exact rfl);exact (by omega);exact (by omega);exact rfl)
 | ((first|((with_reducible apply aj);iterate 4 exact rfl)|((with_reducible apply aa);exact rfl))<;>intro hg<;>(first|(exact absurd hg (by decide))|((try simp only [qz,ge_iff_le,List.cons.injEq,and_true] at hg);first|(exact absurd trivial hg)|(exfalso;omega)|(have hT:True:=hg;clear hT hg)|skip)))
 | (refine zs ?_)
 | fail
 )
       rw [show out.length+1=(out++[(((e,N[i].2),((i+1:Nat):Int),(m:Int)):Prt)]).length by simp]
       refine ⟨(f,m,min (N[i].2+k) B,false,out++[((e,N[i].2),((i+1:Nat):Int),(m:Int))]),?_,?_,by refine ak rfl ?_ ?_<;>repeat (first|exact ai|exact ac|refine ae rfl rfl ?_|refine ab rfl rfl rfl ?_)⟩
       ·exact Nat.lt_succ_self f
       ·exact ⟨hr,by show m≤N.length;omega,by show N.length+1≤f+m;omega,by show A0≤min _ _;omega,by show min _ _≤B;omega,by show (out++[_]).length≤m;rw [List.length_append];show out.length+1≤m;omega⟩
   ·rw [if_pos hax] at hr
    obtain ⟨rfl,rfl⟩:out++[((e,B),(i:Int),cM N 1 i)]=R1∧decide (cM N 1 i=N.length)=R2:=by injection hr with a b;exact ⟨a,b⟩
    generalize cM N 1 i=E at *
    repeat' (first
 | ((with_reducible apply (ah (f:=71)));exact rfl;exact rfl;exact cw;exact rfl;exact rfl)
 | ((with_reducible apply (ah (f:=72)));exact rfl;exact rfl;exact ct;exact rfl;exact rfl)
 | ((with_reducible apply (dq (enc:=ptC) (x0:=((e,B),(i:Int),E))));exact rfl;exact rfl;exact inferInstance;(iterate 4 exact rfl);exact (by omega);exact (by omega);exact rfl)
 | (((with_reducible apply aa);exact rfl)<;>intro hg<;>(first|(exact absurd hg (by decide))|((try simp only [qz,ge_iff_le,List.cons.injEq,and_true] at hg);first|(exact absurd trivial hg)|(exfalso;omega)|(have hT:True:=hg;clear hT hg)|skip)))
 | (refine zs ?_)
 | fail
 )
    all_goals exact bJ (.cons (.tmp rfl (bx rfl (by rw [av EncL.len];simp))) (.cons (.tmp rfl ap) .nil))
 ·rw [dif_neg hil] at hr
  obtain ⟨rfl,rfl⟩:([]:List Prt)=R1∧false=R2:=by injection hr with a b;exact ⟨a,b⟩
  repeat' (first
 | (((with_reducible apply aa);exact rfl)<;>intro hg<;>(first|(exact absurd hg (by decide))|((try simp only [qz,ge_iff_le,List.cons.injEq,and_true] at hg);first|(exact absurd trivial hg)|(exfalso;omega)|(have hT:True:=hg;clear hT hg)|skip)))
 | (refine zs ?_)
 | fail
 )
  all_goals exact bJ (.cons (.tmp rfl bP) (.cons (.tmp rfl ap) .nil))
end Go.Proofs.YtdndfncpglfdeaaGreatDoor.Tp
