/- RA: texts laid together. -/
import Derived.Test.YtdndfncpglfdeaaGreatDoorMrgX8
import Derived.Test.YtdndfncpglfdeaaGreatDoorMrgX12
import Derived.Test.YtdndfncpglfdeaaGreatDoorMrgX9
import Derived.Test.YtdndfncpglfdeaaGreatDoorMrgS
set_option maxRecDepth 100000
set_option maxHeartbeats 64000000

namespace Go.Proofs.YtdndfncpglfdeaaGreatDoor.Tp
set_option linter.unusedVariables false
set_option linter.unusedSimpArgs false
open Go.RowKit Go.Proofs.YtdndfncpglfdeaaGreatDoor.Ev
open Go.Proofs.YtdndfncpglfdeaaGreatDoor.Cu (I LI LS gw ce)
open Go.Proofs.YtdndfncpglfdeaaGreatDoor.Ge (an aG)
variable {gl:List (Nat×List CV)}
theorem aw_nilc {P:Program} {c:Code} {Q:Exit→St→Prop} {n nx:Nat} {env:List (Nat×AV)} {heap:List (Nat×Option AB)} (i size:Nat) (hi:Ev.bf i env=some (.c (.v (.slice none 0 0)))) (h:gf P c Q ⟨n,(i,.c (.lst size []))::env,heap,nx,gl⟩):gf P c Q ⟨n,env,heap,nx,gl⟩:=by
 intro base w0 M a hs
 refine h base w0 M a ⟨hs.H,hs.nx,hs.n,fun k y hy=>?_,hs.gl,hs.heap,hs.below,hs.base,hs.defs,hs.old⟩
 rw [az] at hy
 by_cases hk:i=k
 ·subst hk
  rw [if_pos rfl] at hy
  simp only [Option.some.injEq] at hy;subst hy
  obtain ⟨v,e1,e2⟩:=hs.env i _ hi
  refine ⟨v,e1,?_⟩
  have:=e2.bool
  subst this
  exact .c .nil
 ·rw [if_neg hk] at hy;exact hs.env k y hy
theorem rsizes_con (c:List Pr) (hc:prE c=0) (h:Int):bm Tryz.prog gl 77 [fj c,I h] (.tup [LI ((cB c h).map Prod.fst),LI ((cB c h).map Prod.snd)]):=by
 have c1:=rpcheck_con (gl:=gl) c
 rw [hc] at c1
 have hlen:=cU hc
 refine ao Tryz.func77 rfl (by kernel_rfl) rfl ?_
 simp only [Tryz.ntmps77,Tryz.results77,am,ofC,aZ,List.map]
 repeat' (first
 | ((with_reducible apply (ah (f:=29)));exact rfl;exact rfl;exact c1;exact rfl;exact rfl)
 | (((with_reducible apply aa);exact rfl)<;>intro hg<;>(first|(exact absurd hg (by decide))|((try simp only [qz,ge_iff_le,List.cons.injEq,and_true] at hg);first|(exact absurd trivial hg)|(exfalso;omega)|(have hT:True:=hg;clear hT hg)|skip)))
 | (refine zs ?_)
 | fail
 )
 refine bo 6 3 1 rfl rfl ?_
 refine bo 7 3 1 rfl rfl ?_
 refine au (G:=Nat×List Int×List Int×Nat) (fun ((j,ws,ps,n):Nat×List Int×List Int×Nat)=>j≤c.length∧ws=(szN c h j).map Prod.fst∧ps=(szN c h j).map Prod.snd∧(szN c h j).length=n) (fun ((j,ws,ps,n):Nat×List Int×List Int×Nat)=>c.length - j) (fun ((j,ws,ps,n):Nat×List Int×List Int×Nat)=>[(0,.c (fj c)),(1,A h),(6,.vec 0 n),(7,.vec 1 n),(8,A j)]) (fun ((j,ws,ps,n):Nat×List Int×List Int×Nat)=>[(1,some (.vec 3 1 (ps.flatMap ce))),(0,some (.vec 3 1 (ws.flatMap ce)))]) 2 (0,[],[],0) ?_ (by refine ak rfl ?_ ?_<;>repeat (first|exact ai|exact ac|refine ae rfl rfl ?_|refine ab rfl rfl rfl ?_)) rfl ?_
 ·exact ⟨Nat.zero_le _,rfl,rfl,rfl⟩
 rintro ⟨j,ws,ps,n⟩ hI
 try dsimp only at hI
 try dsimp only
 obtain ⟨hj,hw,hp,hn⟩:=hI
 have hwl:ws.length=n:=by rw [hw,List.length_map,hn]
 have hpl:ps.length=n:=by rw [hp,List.length_map,hn]
 have hle:=szN_le c h j
 by_cases hjl:j < c.length
 ·have c2:=iD (gl:=gl) c[j]
  have hd:=fB hjl
  have e:szN c h (j+1)=szN c h j++sz1 c h j:=rfl
  unfold sz1 at e
  rw [hd] at e
  obtain ⟨⟨g1,g2⟩,hg⟩:∃ g:Int×Int,aW c[j]=g:=⟨_,rfl⟩
  rw [hg] at c2 e
  dsimp only at c2 e
  by_cases h1:g1=h
  ·rw [if_pos h1] at e
   repeat' (first
 | ((with_reducible apply (ah (f:=68)));exact rfl;exact rfl;exact c2;exact rfl;exact rfl)
 | ((with_reducible apply (dq (enc:=ce) (x0:=g2)));exact rfl;exact rfl;exact inferInstance;exact hwl;(iterate 3 exact rfl);exact (by omega);exact (by omega);exact rfl)
 | ((with_reducible apply (dq (enc:=ce) (x0:=(j:Int))));exact rfl;exact rfl;exact inferInstance;exact hpl;(iterate 3 exact rfl);exact (by omega);exact (by omega);exact rfl)
 | (((with_reducible apply aa);exact rfl)<;>intro hg<;>(first|(exact absurd hg (by decide))|((try simp only [qz,ge_iff_le,List.cons.injEq,and_true] at hg);first|(exact absurd trivial hg)|(exfalso;omega)|(have hT:True:=hg;clear hT hg)|skip)))
 | (refine zs ?_)
 | fail
 )
   refine ⟨(j+1,ws++[g2],ps++[(j:Int)],n+1),?_,?_,by refine ak rfl ?_ ?_<;>repeat (first|exact ai|exact ac|refine ae rfl rfl ?_|refine ab rfl rfl rfl ?_)⟩
   ·show c.length - (j+1) < c.length - j;omega
   ·exact ⟨by show j+1≤_;omega,by show ws++_=_;rw [e,hw];simp,by show ps++_=_;rw [e,hp];simp,by show (szN c h (j+1)).length=_;rw [e];simp [hn]⟩
  ·rw [if_neg h1] at e
   by_cases h2:g2=h
   ·rw [if_pos h2] at e
    repeat' (first
 | ((with_reducible apply (ah (f:=68)));exact rfl;exact rfl;exact c2;exact rfl;exact rfl)
 | ((with_reducible apply (dq (enc:=ce) (x0:=g1)));exact rfl;exact rfl;exact inferInstance;exact hwl;(iterate 3 exact rfl);exact (by omega);exact (by omega);exact rfl)
 | ((with_reducible apply (dq (enc:=ce) (x0:=(j:Int))));exact rfl;exact rfl;exact inferInstance;exact hpl;(iterate 3 exact rfl);exact (by omega);exact (by omega);exact rfl)
 | (((with_reducible apply aa);exact rfl)<;>intro hg<;>(first|(exact absurd hg (by decide))|((try simp only [qz,ge_iff_le,List.cons.injEq,and_true] at hg);first|(exact absurd trivial hg)|(exfalso;omega)|(have hT:True:=hg;clear hT hg)|skip)))
 | (refine zs ?_)
 | fail
 )
    refine ⟨(j+1,ws++[g1],ps++[(j:Int)],n+1),?_,?_,by refine ak rfl ?_ ?_<;>repeat (first|exact ai|exact ac|refine ae rfl rfl ?_|refine ab rfl rfl rfl ?_)⟩
    ·show c.length - (j+1) < c.length - j;omega
    ·exact ⟨by show j+1≤_;omega,by show ws++_=_;rw [e,hw];simp,by show ps++_=_;rw [e,hp];simp,by show (szN c h (j+1)).length=_;rw [e];simp [hn]⟩
   ·rw [if_neg h2,List.append_nil] at e
    repeat' (first
 | ((with_reducible apply (ah (f:=68)));exact rfl;exact rfl;exact c2;exact rfl;exact rfl)
 | (((with_reducible apply aa);exact rfl)<;>intro hg<;>(first|(exact absurd hg (by decide))|((try simp only [qz,ge_iff_le,List.cons.injEq,and_true] at hg);first|(exact absurd trivial hg)|(exfalso;omega)|(have hT:True:=hg;clear hT hg)|skip)))
 | (refine zs ?_)
 | fail
 )
    refine ⟨(j+1,ws,ps,n),?_,?_,by refine ak rfl ?_ ?_<;>repeat (first|exact ai|exact ac|refine ae rfl rfl ?_|refine ab rfl rfl rfl ?_)⟩
    ·show c.length - (j+1) < c.length - j;omega
    ·exact ⟨by show j+1≤_;omega,by show ws=_;rw [e,hw],by show ps=_;rw [e,hp],by show (szN c h (j+1)).length=_;rw [e];exact hn⟩
 ·obtain rfl:j=c.length:=by omega
  have e1:(cB c h).map Prod.fst=ws:=hw.symm
  have e2:(cB c h).map Prod.snd=ps:=hp.symm
  rw [e1,e2]
  repeat' (first
 | (((with_reducible apply aa);exact rfl)<;>intro hg<;>(first|(exact absurd hg (by decide))|((try simp only [qz,ge_iff_le,List.cons.injEq,and_true] at hg);first|(exact absurd trivial hg)|(exfalso;omega)|(have hT:True:=hg;clear hT hg)|skip)))
 | (refine zs ?_)
 | fail
 )
  all_goals exact bJ (.cons (.tmp rfl (bx rfl (by rw [av EncL.len,hwl]))) (.cons (.tmp rfl (bx rfl (by rw [av EncL.len,hpl]))) .nil))
def fQ (n:Int):Bool→List Int→List Int
 | dn,[]=>if dn then [] else [n]
 | dn,x::xs=>if dn=false∧n≤x then (if n < x then [n] else [])++x::fQ n true xs else x::fQ n dn xs
theorem addG_len (n:Int):∀ (l:List Int) (dn:Bool),(fQ n dn l).length≤l.length+1
 | [],dn=>by unfold fQ;split<;>simp
 | x::xs,dn=>by
  have ih:=addG_len n xs
  have ih1:=ih true
  have ih2:=ih dn
  unfold fQ
  split
  ·rename_i h
   have ih3:(fQ n true xs).length≤xs.length:=by
    clear ih ih1 ih2 h
    induction xs with
    | nil=>simp [fQ]
    | cons y ys ihy=>unfold fQ;rw [if_neg (by simp)];simp only [List.length_cons];omega
   split<;>simp<;>omega
  ·simp only [List.length_cons];omega
theorem addG_mem (n:Int):∀ (l:List Int) (dn:Bool) (x:Int),x∈fQ n dn l↔x∈l∨(dn=false∧x=n)
 | [],dn,x=>by cases dn<;>simp [fQ]
 | y::ys,dn,x=>by
  unfold fQ
  split
  ·rename_i h
   rw [List.mem_append,List.mem_cons,addG_mem n ys true x,List.mem_cons]
   by_cases h2:n < y
   ·rw [if_pos h2];simp [h.1];constructor<;>(intro hh;rcases hh with h|h|h<;>simp [h])
   ·rw [if_neg h2]
    have:n=y:=by omega
    simp [h.1,this]
    exact fun h=>.inl h
  ·rw [List.mem_cons,addG_mem n ys dn x,List.mem_cons,or_assoc]
theorem radd_con (l:List Int) (n:Int) (hL:l.length≤100000):bm Tryz.prog gl 76 [LI l,I n] (LI (fQ n false l)):=by
 generalize hF:fQ n false l=full
 refine ao Tryz.func76 rfl (by kernel_rfl) rfl ?_
 simp only [Tryz.ntmps76,Tryz.results76,am,ofC,aZ,List.map]
 repeat' (first
 | (refine zs ?_)
 | fail
 )
 refine bo 5 3 1 rfl rfl ?_
 refine au (G:=Nat×List Int×Bool) (fun ((j,out,dn):Nat×List Int×Bool)=>j≤l.length∧out++fQ n dn (l.drop j)=full∧out.length≤j+1∧(dn=false→out.length≤j)) (fun ((j,out,dn):Nat×List Int×Bool)=>l.length - j) (fun ((j,out,dn):Nat×List Int×Bool)=>[(0,.c (LI l)),(1,A n),(5,.vec 0 out.length),(6,.c (BO dn)),(7,A j)]) (fun ((j,out,dn):Nat×List Int×Bool)=>[(0,some (.vec 3 1 (out.flatMap ce)))]) 1 (0,[],false) ?_ (by refine ak rfl ?_ ?_<;>repeat (first|exact ai|exact ac|refine ae rfl rfl ?_|refine ab rfl rfl rfl ?_)) rfl ?_
 ·exact ⟨Nat.zero_le _,hF,by decide,fun _=>Nat.le_refl _⟩
 rintro ⟨j,out,dn⟩ hI
 try dsimp only at hI
 try dsimp only
 obtain ⟨hj,ho,hol,hof⟩:=hI
 by_cases hjl:j < l.length
 ·rw [List.drop_eq_getElem_cons hjl] at ho
  unfold fQ at ho
  cases dn with
  | true =>
   rw [if_neg (by simp)] at ho
   repeat' (first
 | ((with_reducible apply (dq (enc:=ce) (x0:=l[j])));exact rfl;exact rfl;exact inferInstance;(iterate 4 exact rfl);exact (by omega);exact (by omega);exact rfl)
 | ((first|((with_reducible apply aj);iterate 4 exact rfl)|((with_reducible apply aa);exact rfl))<;>intro hg<;>(first|(exact absurd hg (by decide))|((try simp only [qz,ge_iff_le,List.cons.injEq,and_true] at hg);first|(exact absurd trivial hg)|(exfalso;omega)|(have hT:True:=hg;clear hT hg)|skip)))
 | (refine zs ?_)
 | fail
 )
   rw [show out.length+1=(out++[l[j]]).length by simp]
   refine ⟨(j+1,out++[l[j]],true),?_,?_,by refine ak rfl ?_ ?_<;>repeat (first|exact ai|exact ac|refine ae rfl rfl ?_|refine ab rfl rfl rfl ?_)⟩
   ·show l.length - (j+1) < l.length - j;omega
   ·exact ⟨hjl,by rw [← ho];simp,by show (out++[l[j]]).length≤j+1+1;simp;omega,by intro h;first|(cases h;done)|(have:=hof rfl;show List.length _≤j+1;simp;omega)⟩
  | false =>
   by_cases h1:n≤l[j]
   ·rw [if_pos ⟨rfl,h1⟩] at ho
    by_cases h2:n < l[j]
    ·rw [if_pos h2] at ho
     have ho2:out.length≤j:=hof rfl
     repeat' (first
 | ((with_reducible apply (dq (enc:=ce) (x0:=n)));exact rfl;exact rfl;exact inferInstance;(iterate 4 exact rfl);exact (by omega);exact (by omega);exact rfl)
 | ((with_reducible apply (dq (enc:=ce) (x0:=l[j])));exact rfl;exact rfl;exact inferInstance;exact (by simp);(iterate 3 exact rfl);exact (by omega);exact (by omega);exact rfl)
 | ((first|((with_reducible apply aj);iterate 4 exact rfl)|((with_reducible apply aa);exact rfl))<;>intro hg<;>(first|(exact absurd hg (by decide))|((try simp only [qz,ge_iff_le,List.cons.injEq,and_true] at hg);first|(exact absurd trivial hg)|(exfalso;omega)|(have hT:True:=hg;clear hT hg)|skip)))
 | (refine zs ?_)
 | fail
 )
     rw [show out.length+1+1=(out++[n]++[l[j]]).length by simp]
     refine ⟨(j+1,out++[n]++[l[j]],true),?_,?_,by refine ak rfl ?_ ?_<;>repeat (first|exact ai|exact ac|refine ae rfl rfl ?_|refine ab rfl rfl rfl ?_)⟩
     ·show l.length - (j+1) < l.length - j;omega
     ·exact ⟨hjl,by rw [← ho];simp,by show (out++[n]++[l[j]]).length≤j+1+1;simp;omega,by intro h;first|(cases h;done)|(have:=hof rfl;show List.length _≤j+1;simp;omega)⟩
    ·rw [if_neg h2] at ho
     repeat' (first
 | ((with_reducible apply (dq (enc:=ce) (x0:=l[j])));exact rfl;exact rfl;exact inferInstance;(iterate 4 exact rfl);exact (by omega);exact (by omega);exact rfl)
 | ((first|((with_reducible apply aj);iterate 4 exact rfl)|((with_reducible apply aa);exact rfl))<;>intro hg<;>(first|(exact absurd hg (by decide))|((try simp only [qz,ge_iff_le,List.cons.injEq,and_true] at hg);first|(exact absurd trivial hg)|(exfalso;omega)|(have hT:True:=hg;clear hT hg)|skip)))
 | (refine zs ?_)
 | fail
 )
     rw [show out.length+1=(out++[l[j]]).length by simp]
     refine ⟨(j+1,out++[l[j]],true),?_,?_,by refine ak rfl ?_ ?_<;>repeat (first|exact ai|exact ac|refine ae rfl rfl ?_|refine ab rfl rfl rfl ?_)⟩
     ·show l.length - (j+1) < l.length - j;omega
     ·exact ⟨hjl,by rw [← ho];simp,by show (out++[l[j]]).length≤j+1+1;simp;omega,by intro h;first|(cases h;done)|(have:=hof rfl;show List.length _≤j+1;simp;omega)⟩
   ·rw [if_neg (by simp;omega)] at ho
    repeat' (first
 | ((with_reducible apply (dq (enc:=ce) (x0:=l[j])));exact rfl;exact rfl;exact inferInstance;(iterate 4 exact rfl);exact (by omega);exact (by omega);exact rfl)
 | ((first|((with_reducible apply aj);iterate 4 exact rfl)|((with_reducible apply aa);exact rfl))<;>intro hg<;>(first|(exact absurd hg (by decide))|((try simp only [qz,ge_iff_le,List.cons.injEq,and_true] at hg);first|(exact absurd trivial hg)|(exfalso;omega)|(have hT:True:=hg;clear hT hg)|skip)))
 | (refine zs ?_)
 | fail
 )
    rw [show out.length+1=(out++[l[j]]).length by simp]
    refine ⟨(j+1,out++[l[j]],false),?_,?_,by refine ak rfl ?_ ?_<;>repeat (first|exact ai|exact ac|refine ae rfl rfl ?_|refine ab rfl rfl rfl ?_)⟩
    ·show l.length - (j+1) < l.length - j;omega
    ·exact ⟨hjl,by rw [← ho];simp,by show (out++[l[j]]).length≤j+1+1;simp;omega,by intro h;first|(cases h;done)|(have:=hof rfl;show List.length _≤j+1;simp;omega)⟩
 ·obtain rfl:j=l.length:=by omega
  rw [List.drop_length] at ho
  cases dn with
  | true =>
   have e:out=full:=by rw [← ho];simp [fQ]
   subst e
   repeat' (first
 | (((with_reducible apply aa);exact rfl)<;>intro hg<;>(first|(exact absurd hg (by decide))|((try simp only [qz,ge_iff_le,List.cons.injEq,and_true] at hg);first|(exact absurd trivial hg)|(exfalso;omega)|(have hT:True:=hg;clear hT hg)|skip)))
 | (refine zs ?_)
 | fail
 )
   all_goals exact cL (.tmp rfl (bx rfl (av EncL.len _)))
  | false =>
   have e:out++[n]=full:=by rw [← ho];simp [fQ]
   repeat' (first
 | ((with_reducible apply (dq (enc:=ce) (x0:=n)));exact rfl;exact rfl;exact inferInstance;(iterate 4 exact rfl);exact (by omega);exact (by omega);exact rfl)
 | (((with_reducible apply aa);exact rfl)<;>intro hg<;>(first|(exact absurd hg (by decide))|((try simp only [qz,ge_iff_le,List.cons.injEq,and_true] at hg);first|(exact absurd trivial hg)|(exfalso;omega)|(have hT:True:=hg;clear hT hg)|skip)))
 | (refine zs ?_)
 | fail
 )
   all_goals
    rw [← e]
    exact cL (.tmp rfl (bx rfl (by rw [av EncL.len];simp)))
def rhN (c:List Pr):Nat→List Int
 | 0=>[]
 | i+1=>fQ (aW (fF c i)).2 false (fQ (aW (fF c i)).1 false (rhN c i))
theorem rhN_len (c:List Pr):∀ i,(rhN c i).length≤2 * i
 | 0=>by simp [rhN]
 | i+1=>by
  have h1:=addG_len (aW (fF c i)).1 (rhN c i) false
  have h2:=addG_len (aW (fF c i)).2 (fQ (aW (fF c i)).1 false (rhN c i)) false
  have h3:=rhN_len c i
  rw [rhN];omega
theorem rhN_mem (c:List Pr):∀ (n:Nat) (x:Int),x∈rhN c n↔∃ i,i < n∧(x=(aW (fF c i)).1∨x=(aW (fF c i)).2)
 | 0,x=>by simp [rhN]
 | n+1,x=>by
  rw [rhN,addG_mem,addG_mem,rhN_mem c n x]
  constructor
  ·rintro ((⟨i,h1,h2⟩|⟨_,h⟩)|⟨_,h⟩)
   ·exact ⟨i,by omega,h2⟩
   ·exact ⟨n,by omega,.inl h⟩
   ·exact ⟨n,by omega,.inr h⟩
  ·rintro ⟨i,h1,h2⟩
   by_cases hi:i=n
   ·subst hi
    rcases h2 with h|h
    ·exact .inl (.inr ⟨rfl,h⟩)
    ·exact .inr ⟨rfl,h⟩
   ·exact .inl (.inl ⟨i,by omega,h2⟩)
theorem rh_iff (c:List Pr) (x:Int):x∈rhN c c.length↔x∈aE c:=by rw [rhN_mem,heights_mem]
theorem rheights_con (c:List Pr) (hc:prE c=0):bm Tryz.prog gl 35 [fj c] (LI (rhN c c.length)):=by
 have c1:=rpcheck_con (gl:=gl) c
 rw [hc] at c1
 have hlen:=cU hc
 refine ao Tryz.func35 rfl (by kernel_rfl) rfl ?_
 simp only [Tryz.ntmps35,Tryz.results35,am,ofC,aZ,List.map]
 repeat' (first
 | ((with_reducible apply (ah (f:=29)));exact rfl;exact rfl;exact c1;exact rfl;exact rfl)
 | (((with_reducible apply aa);exact rfl)<;>intro hg<;>(first|(exact absurd hg (by decide))|((try simp only [qz,ge_iff_le,List.cons.injEq,and_true] at hg);first|(exact absurd trivial hg)|(exfalso;omega)|(have hT:True:=hg;clear hT hg)|skip)))
 | (refine zs ?_)
 | fail
 )
 refine aw_nilc 3 1 rfl ?_
 refine au (G:=Nat) (fun (j:Nat)=>j≤c.length) (fun (j:Nat)=>c.length - j) (fun (j:Nat)=>[(0,.c (fj c)),(3,.c (LI (rhN c j))),(4,A j)]) (fun (j:Nat)=>[]) 0 0 ?_ (by refine ak rfl ?_ ?_<;>repeat (first|exact ai|exact ac|refine ae rfl rfl ?_|refine ab rfl rfl rfl ?_)) rfl ?_
 ·exact Nat.zero_le _
 rintro j hI
 try dsimp only at hI
 try dsimp only
 have hl:=rhN_len c j
 by_cases hj:j < c.length
 ·have c2:=iD (gl:=gl) c[j]
  have e:rhN c (j+1)=fQ (aW c[j]).2 false (fQ (aW c[j]).1 false (rhN c j)):=by rw [rhN,fB hj]
  have c3:=radd_con (gl:=gl) (rhN c j) (aW c[j]).1 (by omega)
  have hl2:=addG_len (aW c[j]).1 (rhN c j) false
  have c4:=radd_con (gl:=gl) (fQ (aW c[j]).1 false (rhN c j)) (aW c[j]).2 (by omega)
  rw [← e] at c4
  generalize fQ (aW c[j]).1 false (rhN c j)=m at *
  generalize aW c[j]=g at *
  repeat' (first
 | ((with_reducible apply (ah (f:=68)));exact rfl;exact rfl;exact c2;exact rfl;exact rfl)
 | ((with_reducible apply (ah (f:=76)));exact rfl;exact rfl;(first|exact c3|exact c4);exact rfl;exact rfl)
 | (((with_reducible apply aa);exact rfl)<;>intro hg<;>(first|(exact absurd hg (by decide))|((try simp only [qz,ge_iff_le,List.cons.injEq,and_true] at hg);first|(exact absurd trivial hg)|(exfalso;omega)|(have hT:True:=hg;clear hT hg)|skip)))
 | (refine zs ?_)
 | fail
 )
  refine ⟨j+1,?_,?_,by refine ak rfl ?_ ?_<;>repeat (first|exact ai|exact ac|refine ae rfl rfl ?_|refine ab rfl rfl rfl ?_)⟩
  ·show c.length - (j+1) < c.length - j;omega
  ·show j+1≤c.length;omega
 ·obtain rfl:j=c.length:=by omega
  repeat' (first
 | (((with_reducible apply aa);exact rfl)<;>intro hg<;>(first|(exact absurd hg (by decide))|((try simp only [qz,ge_iff_le,List.cons.injEq,and_true] at hg);first|(exact absurd trivial hg)|(exfalso;omega)|(have hT:True:=hg;clear hT hg)|skip)))
 | (refine zs ?_)
 | fail
 )
  all_goals exact cL (.tmp rfl ap)
theorem in_con (l:List Int) (x:Int) (hL:l.length≤100000):bm Tryz.prog gl 34 [LI l,I x] (BO (decide (x∈l))):=by
 refine ao Tryz.func34 rfl (by kernel_rfl) rfl ?_
 simp only [Tryz.ntmps34,Tryz.results34,am,ofC,aZ,List.map]
 repeat' (first
 | (refine zs ?_)
 | fail
 )
 refine au (G:=Nat) (fun (j:Nat)=>j≤l.length∧∀ i (hi:i < l.length),i < j→l[i]≠x) (fun (j:Nat)=>l.length - j) (fun (j:Nat)=>[(0,.c (LI l)),(1,A x),(5,A j)]) (fun (j:Nat)=>[]) 0 0 ?_ (by refine ak rfl ?_ ?_<;>repeat (first|exact ai|exact ac|refine ae rfl rfl ?_|refine ab rfl rfl rfl ?_)) rfl ?_
 ·exact ⟨Nat.zero_le _,fun i _ h=>absurd h (Nat.not_lt_zero _)⟩
 rintro j hI
 try dsimp only at hI
 try dsimp only
 obtain ⟨hj,hall⟩:=hI
 by_cases hjl:j < l.length
 ·by_cases hx:l[j]=x
  ·have hm:decide (x∈l)=true:=by rw [decide_eq_true_eq,← hx];exact List.getElem_mem hjl
   rw [hm]
   repeat' (first
 | (((with_reducible apply aa);exact rfl)<;>intro hg<;>(first|(exact absurd hg (by decide))|((try simp only [qz,ge_iff_le,List.cons.injEq,and_true] at hg);first|(exact absurd trivial hg)|(exfalso;omega)|(have hT:True:=hg;clear hT hg)|skip)))
 | (refine zs ?_)
 | fail
 )
   all_goals exact aK rfl rfl
  ·skip
   repeat' (first
 | (((with_reducible apply aa);exact rfl)<;>intro hg<;>(first|(exact absurd hg (by decide))|((try simp only [qz,ge_iff_le,List.cons.injEq,and_true] at hg);first|(exact absurd trivial hg)|(exfalso;omega)|(have hT:True:=hg;clear hT hg)|skip)))
 | (refine zs ?_)
 | fail
 )
   refine ⟨j+1,?_,?_,by refine ak rfl ?_ ?_<;>repeat (first|exact ai|exact ac|refine ae rfl rfl ?_|refine ab rfl rfl rfl ?_)⟩
   ·show l.length - (j+1) < l.length - j;omega
   ·refine ⟨hjl,fun i hi hij=>?_⟩
    by_cases h:i=j
    ·subst h;exact hx
    ·exact hall i hi (by omega)
 ·have hm:decide (x∈l)=false:=by
   rw [decide_eq_false_iff_not]
   intro hm
   obtain ⟨i,hi,e⟩:=List.mem_iff_getElem.1 hm
   exact hall i hi (by omega) e
  rw [hm]
  repeat' (first
 | (((with_reducible apply aa);exact rfl)<;>intro hg<;>(first|(exact absurd hg (by decide))|((try simp only [qz,ge_iff_le,List.cons.injEq,and_true] at hg);first|(exact absurd trivial hg)|(exfalso;omega)|(have hT:True:=hg;clear hT hg)|skip)))
 | (refine zs ?_)
 | fail
 )
  all_goals exact aK rfl rfl
theorem waste_con (x:Nd):bm Tryz.prog gl 71 [.agg [I x.1,I x.2]] (BO (decide (x.1=0))):=by
 by_cases h:x.1=0<;>simp only [h,decide_true,decide_false]
 all_goals
  refine ao Tryz.func71 rfl (by kernel_rfl) rfl ?_
  simp only [Tryz.ntmps71,Tryz.results71,am,ofC,aZ,List.map]
  repeat' (first
 | (refine zs ?_)
 | fail
 )
  all_goals exact aK rfl (by simp [*])
instance (s:an):Decidable (aJ s):=inferInstanceAs (Decidable (_∧_))
theorem framed_con (X Y:an):bm Tryz.prog gl 31 [.agg (cQ X Y)] (BO (decide (aJ X∧aJ Y))):=by
 unfold aJ
 by_cases h1:X.1 < X.2
 ·by_cases h2:Y.1 < Y.2
  ·by_cases h3:-600≤X.1
   ·by_cases h4:X.2≤600
    ·by_cases h5:-600≤Y.1
     ·by_cases h6:Y.2≤600
      ·rw [decide_eq_true ⟨⟨h3,h1,h4⟩,h5,h2,h6⟩]
       refine ao Tryz.func31 rfl (by kernel_rfl) rfl ?_
       simp only [Tryz.ntmps31,Tryz.results31,am,ofC,aZ,List.map]
       repeat' (first
 | (((with_reducible apply aj);iterate 4 exact rfl)<;>intro hg<;>(first|(exact absurd hg (by decide))|((try simp only [qz,ge_iff_le,List.cons.injEq,and_true] at hg);first|(exact absurd trivial hg)|(exfalso;omega)|(have hT:True:=hg;clear hT hg)|skip)))
 | (refine zs ?_)
 | fail
 )
       all_goals exact aK rfl (by simp [*])
      ·rw [decide_eq_false (fun h=>h6 h.2.2.2)]
       refine ao Tryz.func31 rfl (by kernel_rfl) rfl ?_
       simp only [Tryz.ntmps31,Tryz.results31,am,ofC,aZ,List.map]
       repeat' (first
 | (((with_reducible apply aj);iterate 4 exact rfl)<;>intro hg<;>(first|(exact absurd hg (by decide))|((try simp only [qz,ge_iff_le,List.cons.injEq,and_true] at hg);first|(exact absurd trivial hg)|(exfalso;omega)|(have hT:True:=hg;clear hT hg)|skip)))
 | (refine zs ?_)
 | fail
 )
       all_goals exact aK rfl (by simp [*])
     ·rw [decide_eq_false (fun h=>h5 h.2.1)]
      refine ao Tryz.func31 rfl (by kernel_rfl) rfl ?_
      simp only [Tryz.ntmps31,Tryz.results31,am,ofC,aZ,List.map]
      repeat' (first
 | (((with_reducible apply aj);iterate 4 exact rfl)<;>intro hg<;>(first|(exact absurd hg (by decide))|((try simp only [qz,ge_iff_le,List.cons.injEq,and_true] at hg);first|(exact absurd trivial hg)|(exfalso;omega)|(have hT:True:=hg;clear hT hg)|skip)))
 | (refine zs ?_)
 | fail
 )
      all_goals exact aK rfl (by simp [*])
    ·rw [decide_eq_false (fun h=>h4 h.1.2.2)]
     refine ao Tryz.func31 rfl (by kernel_rfl) rfl ?_
     simp only [Tryz.ntmps31,Tryz.results31,am,ofC,aZ,List.map]
     repeat' (first
 | (((with_reducible apply aj);iterate 4 exact rfl)<;>intro hg<;>(first|(exact absurd hg (by decide))|((try simp only [qz,ge_iff_le,List.cons.injEq,and_true] at hg);first|(exact absurd trivial hg)|(exfalso;omega)|(have hT:True:=hg;clear hT hg)|skip)))
 | (refine zs ?_)
 | fail
 )
     all_goals exact aK rfl (by simp [*])
   ·rw [decide_eq_false (fun h=>h3 h.1.1)]
    refine ao Tryz.func31 rfl (by kernel_rfl) rfl ?_
    simp only [Tryz.ntmps31,Tryz.results31,am,ofC,aZ,List.map]
    repeat' (first
 | (((with_reducible apply aj);iterate 4 exact rfl)<;>intro hg<;>(first|(exact absurd hg (by decide))|((try simp only [qz,ge_iff_le,List.cons.injEq,and_true] at hg);first|(exact absurd trivial hg)|(exfalso;omega)|(have hT:True:=hg;clear hT hg)|skip)))
 | (refine zs ?_)
 | fail
 )
    all_goals exact aK rfl (by simp [*])
  ·rw [decide_eq_false (fun h=>h2 h.2.2.1)]
   refine ao Tryz.func31 rfl (by kernel_rfl) rfl ?_
   simp only [Tryz.ntmps31,Tryz.results31,am,ofC,aZ,List.map]
   repeat' (first
 | (((with_reducible apply aj);iterate 4 exact rfl)<;>intro hg<;>(first|(exact absurd hg (by decide))|((try simp only [qz,ge_iff_le,List.cons.injEq,and_true] at hg);first|(exact absurd trivial hg)|(exfalso;omega)|(have hT:True:=hg;clear hT hg)|skip)))
 | (refine zs ?_)
 | fail
 )
   all_goals exact aK rfl (by simp [*])
 ·rw [decide_eq_false (fun h=>h1 h.1.2.1)]
  refine ao Tryz.func31 rfl (by kernel_rfl) rfl ?_
  simp only [Tryz.ntmps31,Tryz.results31,am,ofC,aZ,List.map]
  repeat' (first
 | (((with_reducible apply aj);iterate 4 exact rfl)<;>intro hg<;>(first|(exact absurd hg (by decide))|((try simp only [qz,ge_iff_le,List.cons.injEq,and_true] at hg);first|(exact absurd trivial hg)|(exfalso;omega)|(have hT:True:=hg;clear hT hg)|skip)))
 | (refine zs ?_)
 | fail
 )
  all_goals exact aK rfl (by simp [*])
end Go.Proofs.YtdndfncpglfdeaaGreatDoor.Tp
