/- PO PQ: texts laid together. -/
import Derived.Test.YtdndfncpglfdeaaGreatDoorMrgX8
import Derived.Test.YtdndfncpglfdeaaGreatDoorMrgS
set_option maxRecDepth 100000
set_option maxHeartbeats 64000000

namespace Go.Proofs.YtdndfncpglfdeaaGreatDoor.Tp
set_option linter.unusedVariables false
set_option linter.unusedSimpArgs false
open Go.RowKit Go.Proofs.YtdndfncpglfdeaaGreatDoor.Ev
open Go.Proofs.YtdndfncpglfdeaaGreatDoor.Cu (I LI LS gw ce)
open Go.Proofs.YtdndfncpglfdeaaGreatDoor.Ge (an Slc Dfc dfC LL LD fz cZ pos aw aX inS cI bH)
variable {gl:List (Nat×List CV)}
def gy (c:List Pr):Nat→List Int
 | 0=>[]
 | i+1=>gy c i++[(aW (fF c i)).1,(aW (fF c i)).2]
theorem bothN_len (c:List Pr):∀ i,(gy c i).length=2 * i
 | 0=>rfl
 | i+1=>by rw [gy,List.length_append,bothN_len c i];simp;omega
theorem bothN_mem (c:List Pr):∀ (n:Nat) (x:Int),x∈gy c n↔∃ i,i < n∧(x=(aW (fF c i)).1∨x=(aW (fF c i)).2)
 | 0,x=>by simp [gy]
 | n+1,x=>by
  rw [gy,List.mem_append,bothN_mem c n x]
  constructor
  ·rintro (⟨i,h1,h2⟩|h)
   ·exact ⟨i,by omega,h2⟩
   ·simp only [List.mem_cons,List.not_mem_nil,or_false] at h
    exact ⟨n,by omega,h⟩
  ·rintro ⟨i,h1,h2⟩
   by_cases hi:i=n
   ·subst hi;right;simpa using h2
   ·left;exact ⟨i,by omega,h2⟩
def aE (c:List Pr):List Int:=Go.Lib.compact ((gy c c.length).mergeSort fun x y=>decide (x≤y))
theorem heights_mem (c:List Pr) (x:Int):x∈aE c↔∃ i,i < c.length∧(x=(aW (fF c i)).1∨x=(aW (fF c i)).2):=by
 rw [← bothN_mem]
 unfold aE
 constructor
 ·intro h;exact List.mem_mergeSort.1 (compact_sub _ _ h)
 ·intro h;exact compact_all_in _ _ (List.mem_mergeSort.2 h)
theorem heights_len (c:List Pr):(aE c).length≤2 * c.length:=by
 have h1:=compact_len ((gy c c.length).mergeSort fun x y=>decide (x≤y))
 rw [List.length_mergeSort,bothN_len] at h1
 exact h1
theorem sortnil_con:bm Tryz.prog gl 100 [.v (.slice none 0 0)] (.tup []):=by
 refine ⟨by decide +kernel,fun w F vals hF hgl hl hv=>?_⟩
 obtain ⟨u,rfl⟩:∃ u,vals=#[u]:=by
  rcases vals with ⟨l⟩
  match l,hl with
  | [u],_=>exact ⟨u,rfl⟩
 have:=hv 0 _ u rfl rfl
 cases this
 refine (iV none 0 w).mono ?_
 rintro e w' ⟨rfl,rfl⟩
 exact ⟨_,rfl,Below.refl _ _,.tup rfl (fun i x u h=>by simp at h)⟩
theorem compactnil_con:bm Tryz.prog gl 101 [.v (.slice none 0 0)] (.v (.slice none 0 0)):=by
 refine ⟨by decide +kernel,fun w F vals hF hgl hl hv=>?_⟩
 obtain ⟨u,rfl⟩:∃ u,vals=#[u]:=by
  rcases vals with ⟨l⟩
  match l,hl with
  | [u],_=>exact ⟨u,rfl⟩
 have:=hv 0 _ u rfl rfl
 cases this
 refine (fL none 0 w).mono ?_
 rintro e w' ⟨rfl,rfl⟩
 exact ⟨_,rfl,Below.refl _ _,.v _⟩
theorem gK (c:List Pr) (hc:prE c=0):bm Tryz.prog gl 53 [fj c] (LI (aE c)):=by
 have c1:=fc (gl:=gl) c
 rw [hc] at c1
 have hcl:=cU hc
 by_cases h0:c=[]
 ·subst h0
  have c2:=sortnil_con (gl:=gl)
  have c3:=compactnil_con (gl:=gl)
  have e:aE []=[]:=by simp [aE,gy,Go.Lib.compact,Go.Lib.compactUpTo]
  rw [e]
  refine ao Tryz.func53 rfl (by kernel_rfl) rfl ?_
  simp only [Tryz.ntmps53,Tryz.results53,am,ofC,aZ,List.map]
  repeat' (first
 | ((with_reducible apply (ah (f:=50)));exact rfl;exact rfl;exact c1;exact rfl;exact rfl)
 | (((with_reducible apply aa);exact rfl)<;>intro hg<;>(first|(exact absurd hg (by decide))|((try simp only [qz,ge_iff_le,List.cons.injEq,and_true] at hg);first|(exact absurd trivial hg)|(exfalso;omega)|(have hT:True:=hg;clear hT hg)|skip)))
 | (refine zs ?_)
 | fail
 )
  refine au (G:=Nat) (fun (i:Nat)=>i=0) (fun (i:Nat)=>0) (fun (i:Nat)=>[(3,.c (.v (.slice none 0 0))),(12,A 0),(13,A 0)]) (fun (i:Nat)=>[]) 0 0 ?_ (by refine ak rfl ?_ ?_<;>repeat (first|exact ai|exact ac|refine ae rfl rfl ?_|refine ab rfl rfl rfl ?_)) rfl ?_
  ·rfl
  rintro i hI
  try dsimp only at hI
  try dsimp only
  repeat' (first
 | ((with_reducible apply (ah (f:=100)));exact rfl;exact rfl;exact c2;exact rfl;exact rfl)
 | ((with_reducible apply (ah (f:=101)));exact rfl;exact rfl;exact c3;exact rfl;exact rfl)
 | (((with_reducible apply aa);exact rfl)<;>intro hg<;>(first|(exact absurd hg (by decide))|((try simp only [qz,ge_iff_le,List.cons.injEq,and_true] at hg);first|(exact absurd trivial hg)|(exfalso;omega)|(have hT:True:=hg;clear hT hg)|skip)))
 | (refine zs ?_)
 | fail
 )
  all_goals exact cL (.tmp rfl bP)
 ·have hpos:0 < c.length:=List.length_pos_iff.2 h0
  refine ao Tryz.func53 rfl (by kernel_rfl) rfl ?_
  simp only [Tryz.ntmps53,Tryz.results53,am,ofC,aZ,List.map]
  repeat' (first
 | ((with_reducible apply (ah (f:=50)));exact rfl;exact rfl;exact c1;exact rfl;exact rfl)
 | (((with_reducible apply aa);exact rfl)<;>intro hg<;>(first|(exact absurd hg (by decide))|((try simp only [qz,ge_iff_le,List.cons.injEq,and_true] at hg);first|(exact absurd trivial hg)|(exfalso;omega)|(have hT:True:=hg;clear hT hg)|skip)))
 | (refine zs ?_)
 | fail
 )
  refine bo 3 3 1 rfl rfl ?_
  refine au (G:=Nat) (fun (i:Nat)=>i≤c.length) (fun (i:Nat)=>c.length - i) (fun (i:Nat)=>[(3,.vec 0 (2 * i)),(11,.c (fj c)),(12,A c.length),(13,A i)]) (fun (i:Nat)=>[(0,some (.vec 3 1 ((gy c i).flatMap ce)))]) 1 0 ?_ (by refine ak rfl ?_ ?_<;>repeat (first|exact ai|exact ac|refine ae rfl rfl ?_|refine ab rfl rfl rfl ?_)) rfl ?_
  ·exact Nat.zero_le _
  rintro i hI
  try dsimp only at hI
  try dsimp only
  have hbl:=bothN_len c i
  by_cases hi:i < c.length
  ·have cg:=hO (gl:=gl) c[i]
   have hb:gy c (i+1)=gy c i++[(aW c[i]).1,(aW c[i]).2]:=by rw [gy,fB hi]
   generalize aW c[i]=g at *
   repeat' (first
 | ((with_reducible apply (ah (f:=99)));exact rfl;exact rfl;exact cg;exact rfl;exact rfl)
 | ((with_reducible apply bg);iterate 7 exact rfl)
 | ((with_reducible apply (aH (enc:=ce) (l2:=[g.1,g.2])));exact rfl;exact rfl;exact inferInstance;exact hbl;exact rfl;exact (by show _+2 < _;omega);exact (by show (_+2) * _≤_;omega);exact rfl)
 | (((with_reducible apply aa);exact rfl)<;>intro hg<;>(first|(exact absurd hg (by decide))|((try simp only [qz,ge_iff_le,List.cons.injEq,and_true] at hg);first|(exact absurd trivial hg)|(exfalso;omega)|(have hT:True:=hg;clear hT hg)|skip)))
 | (refine zs ?_)
 | fail
 )
   rw [← hb]
   refine ⟨i+1,?_,?_,by refine ak rfl ?_ ?_<;>repeat (first|exact ai|exact ac|refine ae rfl rfl ?_|refine ab rfl rfl rfl ?_)⟩
   ·show c.length - (i+1) < c.length - i;omega
   ·show i+1≤c.length;omega
  ·obtain rfl:i=c.length:=by omega
   have hsl:((gy c c.length).mergeSort fun x y=>decide (x≤y)).length=2 * c.length:=by rw [List.length_mergeSort,hbl]
   repeat' (first
 | ((with_reducible apply (r_sortV sorts));exact rfl;exact rfl;exact hbl;omega;omega;exact rfl)
 | ((with_reducible apply (r_compactV compacts));exact rfl;exact rfl;exact hsl;omega;omega;exact rfl)
 | (((with_reducible apply aa);exact rfl)<;>intro hg<;>(first|(exact absurd hg (by decide))|((try simp only [qz,ge_iff_le,List.cons.injEq,and_true] at hg);first|(exact absurd trivial hg)|(exfalso;omega)|(have hT:True:=hg;clear hT hg)|skip)))
 | (refine zs ?_)
 | fail
 )
   all_goals exact cL (.tmp rfl (bx rfl (by rw [av EncL.len];rfl)))
theorem strip_con (X Y:an) (p q:Int) (h:aQ (Y.1+p)∧aQ (Y.1+q)):bm Tryz.prog gl 23 [.agg (cQ X Y),I p,I q] (.agg (cQ X (Y.1+p,Y.1+q))):=by
 obtain ⟨h1,h2⟩:=h
 refine ao Tryz.func23 rfl (by kernel_rfl) rfl ?_
 simp only [Tryz.ntmps23,Tryz.results23,am,ofC,aZ,List.map]
 repeat' (first
 | (refine zs ?_)
 | fail
 )
 all_goals exact cL (.cell_a inferInstance rfl rfl rfl rfl (al ap (al ap (al ap (al ap bj)))))
theorem volume_con (l:List Slc) (hn:l.length≤maxLen) (X Y:an):bm Tryz.prog gl 27 [LL l,.agg (cQ X Y)] (I (bH l X Y (0,aw l))):=by
 have c1:=Ge.fu (gl:=gl) l hn
 have c2:=Ge.ez (gl:=gl) l hn X Y (0,aw l)
 generalize bH l X Y (0,aw l)=v at *
 generalize aw l=L at *
 refine ao Tryz.func27 rfl (by kernel_rfl) rfl ?_
 simp only [Tryz.ntmps27,Tryz.results27,am,ofC,aZ,List.map]
 repeat' (first
 | (refine aL 9 ?_ ?_;(kernel_rfl);(simp only [List.take_succ_cons,List.take_zero,List.drop_succ_cons,List.drop_zero]))
 | ((with_reducible apply (ah (f:=65)));exact rfl;exact rfl;exact c1;exact rfl;exact rfl)
 | ((with_reducible apply (ah (f:=64)));exact rfl;exact rfl;exact c2;exact rfl;exact rfl)
 | (refine zs ?_)
 | fail
 )
 all_goals exact aB rfl rfl
def dz (x:Nd):Bool:=decide (x.1=1)
theorem isBd_con (x:Nd):bm Tryz.prog gl 107 [.agg [I x.1,I x.2]] (BO (dz x)):=by
 unfold dz
 by_cases h:x.1=1<;>simp only [h,decide_true,decide_false]
 all_goals
  refine ao Tryz.func107 rfl (by kernel_rfl) rfl ?_
  simp only [Tryz.ntmps107,Tryz.results107,am,ofC,aZ,List.map]
  repeat' (first
 | (refine zs ?_)
 | fail
 )
  all_goals exact aK rfl (by simp [*])
theorem hasBoard_con (l:List Nd) (hL:l.length≤100000):bm Tryz.prog gl 55 [fY l] (BO (l.any dz)):=by
 refine ao Tryz.func55 rfl (by kernel_rfl) rfl ?_
 simp only [Tryz.ntmps55,Tryz.results55,am,ofC,aZ,List.map]
 repeat' (first
 | ((with_reducible apply (r_in Tryz.func106 rfl Tryz.results106 (by kernel_rfl) Tryz.ntmps106));iterate 4 exact rfl)
 | ((with_reducible apply co);exact rfl)
 | ((with_reducible apply (r_in Tryz.func145 rfl Tryz.results145 (by kernel_rfl) Tryz.ntmps145));iterate 4 exact rfl)
 | ((with_reducible apply co);exact rfl)
 | (refine zs ?_)
 | fail
 )
 refine au (G:=Nat) (fun (k:Nat)=>k≤l.length∧l.any dz=(l.drop k).any dz) (fun (k:Nat)=>l.length - k) (fun (k:Nat)=>[(0,.c (fY l)),(1,.fn 107 []),(7,A l.length),(8,A k)]) (fun (k:Nat)=>[]) 0 0 ?_ (by refine ak rfl ?_ ?_<;>repeat (first|exact ai|exact ac|refine ae rfl rfl ?_|refine ab rfl rfl rfl ?_)) rfl ?_
 ·exact ⟨Nat.zero_le _,rfl⟩
 rintro k hI
 try dsimp only at hI
 try dsimp only
 obtain ⟨hk,hall⟩:=hI
 by_cases hkl:k < l.length
 ·have hb:=isBd_con (gl:=gl) l[k]
  have hd:(l.drop k).any dz=(dz l[k] || (l.drop (k+1)).any dz):=by rw [List.drop_eq_getElem_cons hkl];rfl
  by_cases h1:l[k].1=1
  ·have hT:l.any dz=true:=by rw [hall,hd];unfold dz;simp [h1]
   rw [hT]
   repeat' (first
 | ((with_reducible apply (r_inF Tryz.func107 rfl Tryz.results107 (by kernel_rfl) Tryz.ntmps107));iterate 5 exact rfl)
 | (refine co rfl ?_)
 | (((with_reducible apply aa);exact rfl)<;>intro hg<;>(first|(exact absurd hg (by decide))|((try simp only [qz,ge_iff_le,List.cons.injEq,and_true] at hg);first|(exact absurd trivial hg)|(exfalso;omega)|(have hT:True:=hg;clear hT hg)|skip)))
 | (refine zs ?_)
 | fail
 )
   all_goals exact aK rfl (by first|rfl|(simp only [decide_eq_true_eq];omega))
  ·skip
   repeat' (first
 | ((with_reducible apply (r_inF Tryz.func107 rfl Tryz.results107 (by kernel_rfl) Tryz.ntmps107));iterate 5 exact rfl)
 | (refine co rfl ?_)
 | (((with_reducible apply aa);exact rfl)<;>intro hg<;>(first|(exact absurd hg (by decide))|((try simp only [qz,ge_iff_le,List.cons.injEq,and_true] at hg);first|(exact absurd trivial hg)|(exfalso;omega)|(have hT:True:=hg;clear hT hg)|skip)))
 | (refine zs ?_)
 | fail
 )
   refine ⟨k+1,?_,?_,by refine ak rfl ?_ ?_<;>repeat (first|exact ai|exact ac|refine ae rfl rfl ?_|refine ab rfl rfl rfl ?_)⟩
   ·show l.length - (k+1) < l.length - k;omega
   ·exact ⟨hkl,by rw [hall,hd];unfold dz;simp [h1]⟩
 ·obtain rfl:k=l.length:=by omega
  rw [List.drop_length] at hall
  have hT:l.any dz=false:=hall
  rw [hT]
  repeat' (first
 | refine co rfl ?_
 | (((with_reducible apply aa);exact rfl)<;>intro hg<;>(first|(exact absurd hg (by decide))|((try simp only [qz,ge_iff_le,List.cons.injEq,and_true] at hg);first|(exact absurd trivial hg)|(exfalso;omega)|(have hT:True:=hg;clear hT hg)|skip)))
 | (refine zs ?_)
 | fail
 )
  all_goals exact aK rfl (by first|rfl|(simp only [decide_eq_true_eq];omega))
end Go.Proofs.YtdndfncpglfdeaaGreatDoor.Tp

namespace Go.Proofs.YtdndfncpglfdeaaGreatDoor.Tp
set_option linter.unusedVariables false
set_option linter.unusedSimpArgs false
open Go.RowKit Go.Proofs.YtdndfncpglfdeaaGreatDoor.Ev
open Go.Proofs.YtdndfncpglfdeaaGreatDoor.Cu (I LI LS gw ce fP ef bestC LP pcC bestS bC TV aR chk perm OKs)
open Go.Proofs.YtdndfncpglfdeaaGreatDoor.Ge (an Slc Dfc dfC LL LD fz cZ pos aw aX inS cI bH)
variable {gl:List (Nat×List CV)}
theorem cframe_con (X Y:an) (hX:aJ X) (hY:aJ Y):bm Tryz.prog gl 52 [.agg (cQ X Y)] (I 0):=by
 obtain ⟨x1,x2,x3⟩:=hX
 obtain ⟨y1,y2,y3⟩:=hY
 refine ao Tryz.func52 rfl (by kernel_rfl) rfl ?_
 simp only [Tryz.ntmps52,Tryz.results52,am,ofC,aZ,List.map]
 repeat' (first
 | ((with_reducible apply (dL (out:=[A X.1,A X.2,A Y.1,A Y.2])));iterate 3 exact rfl)
 | ((first|((with_reducible apply aj);iterate 4 exact rfl)|((with_reducible apply aa);exact rfl))<;>intro hg<;>(first|(exact absurd hg (by decide))|((try simp only [qz,ge_iff_le,List.cons.injEq,and_true] at hg);first|(exact absurd trivial hg)|(exfalso;omega)|(have hT:True:=hg;clear hT hg)|skip)))
 | (refine zs ?_)
 | fail
 )
 refine au (G:=Nat) (fun (k:Nat)=>k≤4) (fun (k:Nat)=>4 - k) (fun (k:Nat)=>[(33,.agg [A X.1,A X.2,A Y.1,A Y.2]),(34,A k),(2,A 0)]) (fun (k:Nat)=>[]) 1 0 ?_ (by refine ak rfl ?_ ?_<;>repeat (first|exact ai|exact ac|refine ae rfl rfl ?_|refine ab rfl rfl rfl ?_)) rfl ?_
 ·exact Nat.zero_le _
 rintro k hI
 try dsimp only at hI
 try dsimp only
 have hc:k=0∨k=1∨k=2∨k=3∨k=4:=by omega
 rcases hc with rfl|rfl|rfl|rfl|rfl
 ·skip
  repeat' (first
 | ((with_reducible apply (dh 0));(iterate 3 exact rfl);decide;exact rfl;exact rfl)
 | ((first|((with_reducible apply aj);iterate 4 exact rfl)|((with_reducible apply aa);exact rfl))<;>intro hg<;>(first|(exact absurd hg (by decide))|((try simp only [qz,ge_iff_le,List.cons.injEq,and_true] at hg);first|(exact absurd trivial hg)|(exfalso;omega)|(have hT:True:=hg;clear hT hg)|skip)))
 | (refine zs ?_)
 | fail
 )
  refine ⟨1,?_,?_,by refine ak rfl ?_ ?_<;>repeat (first|exact ai|exact ac|refine ae rfl rfl ?_|refine ab rfl rfl rfl ?_)⟩
  ·decide
  ·decide
 ·skip
  repeat' (first
 | ((with_reducible apply (dh 1));(iterate 3 exact rfl);decide;exact rfl;exact rfl)
 | ((first|((with_reducible apply aj);iterate 4 exact rfl)|((with_reducible apply aa);exact rfl))<;>intro hg<;>(first|(exact absurd hg (by decide))|((try simp only [qz,ge_iff_le,List.cons.injEq,and_true] at hg);first|(exact absurd trivial hg)|(exfalso;omega)|(have hT:True:=hg;clear hT hg)|skip)))
 | (refine zs ?_)
 | fail
 )
  refine ⟨2,?_,?_,by refine ak rfl ?_ ?_<;>repeat (first|exact ai|exact ac|refine ae rfl rfl ?_|refine ab rfl rfl rfl ?_)⟩
  ·decide
  ·decide
 ·skip
  repeat' (first
 | ((with_reducible apply (dh 2));(iterate 3 exact rfl);decide;exact rfl;exact rfl)
 | ((first|((with_reducible apply aj);iterate 4 exact rfl)|((with_reducible apply aa);exact rfl))<;>intro hg<;>(first|(exact absurd hg (by decide))|((try simp only [qz,ge_iff_le,List.cons.injEq,and_true] at hg);first|(exact absurd trivial hg)|(exfalso;omega)|(have hT:True:=hg;clear hT hg)|skip)))
 | (refine zs ?_)
 | fail
 )
  refine ⟨3,?_,?_,by refine ak rfl ?_ ?_<;>repeat (first|exact ai|exact ac|refine ae rfl rfl ?_|refine ab rfl rfl rfl ?_)⟩
  ·decide
  ·decide
 ·skip
  repeat' (first
 | ((with_reducible apply (dh 3));(iterate 3 exact rfl);decide;exact rfl;exact rfl)
 | ((first|((with_reducible apply aj);iterate 4 exact rfl)|((with_reducible apply aa);exact rfl))<;>intro hg<;>(first|(exact absurd hg (by decide))|((try simp only [qz,ge_iff_le,List.cons.injEq,and_true] at hg);first|(exact absurd trivial hg)|(exfalso;omega)|(have hT:True:=hg;clear hT hg)|skip)))
 | (refine zs ?_)
 | fail
 )
  refine ⟨4,?_,?_,by refine ak rfl ?_ ?_<;>repeat (first|exact ai|exact ac|refine ae rfl rfl ?_|refine ab rfl rfl rfl ?_)⟩
  ·decide
  ·decide
 ·skip
  repeat' (first
 | (((with_reducible apply aa);exact rfl)<;>intro hg<;>(first|(exact absurd hg (by decide))|((try simp only [qz,ge_iff_le,List.cons.injEq,and_true] at hg);first|(exact absurd trivial hg)|(exfalso;omega)|(have hT:True:=hg;clear hT hg)|skip)))
 | (refine zs ?_)
 | fail
 )
  all_goals exact aB rfl rfl
noncomputable def planE (l:List Slc) (d:List Dfc) (c:List Pr) (s:Sw) (r:Rt):Int :=
 if aX l≠0 then aX l else if cI d≠0 then cI d else if prE c≠0 then prE c else srE s r
theorem pcheck2_con (l:List Slc) (d:List Dfc) (c:List Pr) (s:Sw) (r:Rt) (X Y:an) (hl:l.length≤maxLen) (hd:d.length≤maxLen) (hF:aX l=0→aJ X∧aJ Y) :
  bm Tryz.prog gl 20 [LL l,LD d,fj c,.agg (cQ X Y),swC s,rtC r] (I (planE l d c s r)):=by
 have c1:=Ge.eX (gl:=gl) l hl
 have c2:=Ge.iP (gl:=gl) d hd
 have c3:=fc (gl:=gl) c
 have c4:=wcheck_con (gl:=gl) s r
 unfold planE
 by_cases h1:aX l=0
 ·obtain ⟨hX,hY⟩:=hF h1
  have c5:=cframe_con (gl:=gl) X Y hX hY
  rw [if_neg (fun hh=>hh h1)]
  rw [h1] at c1
  by_cases h2:cI d=0
  ·rw [if_neg (fun hh=>hh h2)]
   rw [h2] at c2
   by_cases h3:prE c=0
   ·rw [if_neg (fun hh=>hh h3)]
    rw [h3] at c3
    generalize srE s r=e at *
    by_cases h4:e=0
    ·subst h4
     refine ao Tryz.func20 rfl (by kernel_rfl) rfl ?_
     simp only [Tryz.ntmps20,Tryz.results20,am,ofC,aZ,List.map,swL,rtL]
     repeat' (first
 | ((with_reducible apply (ah (f:=48)));exact rfl;exact rfl;exact c1;exact rfl;exact rfl)
 | ((with_reducible apply (ah (f:=49)));exact rfl;exact rfl;exact c2;exact rfl;exact rfl)
 | ((with_reducible apply (ah (f:=50)));exact rfl;exact rfl;exact c3;exact rfl;exact rfl)
 | ((with_reducible apply (ah (f:=51)));exact rfl;exact rfl;exact c4;exact rfl;exact rfl)
 | ((with_reducible apply (ah (f:=52)));exact rfl;exact rfl;exact c5;exact rfl;exact rfl)
 | (((with_reducible apply aa);exact rfl)<;>intro hg<;>(first|(exact absurd hg (by decide))|((try simp only [qz,ge_iff_le,List.cons.injEq,and_true] at hg);first|(exact absurd trivial hg)|(exfalso;omega)|(have hT:True:=hg;clear hT hg)|skip)))
 | (refine zs ?_)
 | fail
 )
     all_goals exact aB rfl rfl
    ·skip
     refine ao Tryz.func20 rfl (by kernel_rfl) rfl ?_
     simp only [Tryz.ntmps20,Tryz.results20,am,ofC,aZ,List.map,swL,rtL]
     repeat' (first
 | ((with_reducible apply (ah (f:=48)));exact rfl;exact rfl;exact c1;exact rfl;exact rfl)
 | ((with_reducible apply (ah (f:=49)));exact rfl;exact rfl;exact c2;exact rfl;exact rfl)
 | ((with_reducible apply (ah (f:=50)));exact rfl;exact rfl;exact c3;exact rfl;exact rfl)
 | ((with_reducible apply (ah (f:=51)));exact rfl;exact rfl;exact c4;exact rfl;exact rfl)
 | (((with_reducible apply aa);exact rfl)<;>intro hg<;>(first|(exact absurd hg (by decide))|((try simp only [qz,ge_iff_le,List.cons.injEq,and_true] at hg);first|(exact absurd trivial hg)|(exfalso;omega)|(have hT:True:=hg;clear hT hg)|skip)))
 | (refine zs ?_)
 | fail
 )
     all_goals exact aB rfl rfl
   ·rw [if_pos h3]
    generalize prE c=e at *
    refine ao Tryz.func20 rfl (by kernel_rfl) rfl ?_
    simp only [Tryz.ntmps20,Tryz.results20,am,ofC,aZ,List.map,swL,rtL]
    repeat' (first
 | ((with_reducible apply (ah (f:=48)));exact rfl;exact rfl;exact c1;exact rfl;exact rfl)
 | ((with_reducible apply (ah (f:=49)));exact rfl;exact rfl;exact c2;exact rfl;exact rfl)
 | ((with_reducible apply (ah (f:=50)));exact rfl;exact rfl;exact c3;exact rfl;exact rfl)
 | (((with_reducible apply aa);exact rfl)<;>intro hg<;>(first|(exact absurd hg (by decide))|((try simp only [qz,ge_iff_le,List.cons.injEq,and_true] at hg);first|(exact absurd trivial hg)|(exfalso;omega)|(have hT:True:=hg;clear hT hg)|skip)))
 | (refine zs ?_)
 | fail
 )
    all_goals exact aB rfl rfl
  ·rw [if_pos h2]
   generalize cI d=e at *
   refine ao Tryz.func20 rfl (by kernel_rfl) rfl ?_
   simp only [Tryz.ntmps20,Tryz.results20,am,ofC,aZ,List.map,swL,rtL]
   repeat' (first
 | ((with_reducible apply (ah (f:=48)));exact rfl;exact rfl;exact c1;exact rfl;exact rfl)
 | ((with_reducible apply (ah (f:=49)));exact rfl;exact rfl;exact c2;exact rfl;exact rfl)
 | (((with_reducible apply aa);exact rfl)<;>intro hg<;>(first|(exact absurd hg (by decide))|((try simp only [qz,ge_iff_le,List.cons.injEq,and_true] at hg);first|(exact absurd trivial hg)|(exfalso;omega)|(have hT:True:=hg;clear hT hg)|skip)))
 | (refine zs ?_)
 | fail
 )
   all_goals exact aB rfl rfl
 ·rw [if_pos h1]
  generalize aX l=e at *
  refine ao Tryz.func20 rfl (by kernel_rfl) rfl ?_
  simp only [Tryz.ntmps20,Tryz.results20,am,ofC,aZ,List.map,swL,rtL]
  repeat' (first
 | ((with_reducible apply (ah (f:=48)));exact rfl;exact rfl;exact c1;exact rfl;exact rfl)
 | (((with_reducible apply aa);exact rfl)<;>intro hg<;>(first|(exact absurd hg (by decide))|((try simp only [qz,ge_iff_le,List.cons.injEq,and_true] at hg);first|(exact absurd trivial hg)|(exfalso;omega)|(have hT:True:=hg;clear hT hg)|skip)))
 | (refine zs ?_)
 | fail
 )
  all_goals exact aB rfl rfl
def ndssC (l:List (List Nd)):List CV:=[LNds l]
instance:EncL ndssC 1:=⟨fun _=>rfl,by decide,fun _=>rfl⟩
abbrev LNdss (l:List (List (List Nd))):CV:=.lst 1 (l.flatMap ndssC)
def pOk (l:List Slc) (d:List Dfc) (c:List Pr) (X Y:an) (s:Sw) (r:Rt) (h:Int) (p:Nat):Prop :=
 (p:Int).tmod s.pitch=0∧(bV l d c X (Y.1+p,Y.1+(p+h)) s r).length≤127∧(bV l d c X (Y.1+p,Y.1+(p+h)) s r).any dz=true
open Classical in
noncomputable def ei (l:List Slc) (d:List Dfc) (c:List Pr) (X Y:an) (s:Sw) (r:Rt) (h:Int) (p:Nat):Int :=
 if pOk l d c X Y s r h p then TV (aU l d c X (Y.1+p,Y.1+(p+h)) s r) 0 else -1
open Classical in
noncomputable def eU (l:List Slc) (d:List Dfc) (c:List Pr) (X Y:an) (s:Sw) (r:Rt) (h:Int) (p:Nat):List Nd :=
 if pOk l d c X Y s r h p then bV l d c X (Y.1+p,Y.1+(p+h)) s r else []
noncomputable def fG (l:List Slc) (d:List Dfc) (c:List Pr) (X Y:an) (s:Sw) (r:Rt) (i:Nat):List Int :=
 aN (ei l d c X Y s r ((aE c).getD i 0)) (cA Y ((aE c).getD i 0))
noncomputable def pFound (l:List Slc) (d:List Dfc) (c:List Pr) (X Y:an) (s:Sw) (r:Rt) (i:Nat):List (List Nd) :=
 aN (eU l d c X Y s r ((aE c).getD i 0)) (cA Y ((aE c).getD i 0))
noncomputable def dW (l:List Slc) (X Y:an) (k:Int) (p:Nat):Int:=k * bH l X (Y.1+p,Y.1+(p+1)) (0,aw l)
noncomputable def bh (l:List Slc) (d:List Dfc) (c:List Pr) (X Y:an) (s:Sw) (r:Rt):Cu.Line :=
 ⟨Y.2 - Y.1,s.kerf,1,aE c,aN (fG l d c X Y s r) (aE c).length,aN (dW l X Y r.chip) (Y.2 - Y.1).toNat,aN (dW l X Y r.dust) (Y.2 - Y.1).toNat⟩
noncomputable def b9 (l:List Slc) (d:List Dfc) (c:List Pr) (X Y:an) (s:Sw) (r:Rt):List (List (List Nd)):=aN (pFound l d c X Y s r) (aE c).length
theorem heights_bd {c:List Pr} (hc:prE c=0):∀ x∈aE c,5≤x∧x≤600:=by
 intro x hx
 obtain ⟨i,hi,h⟩:=(heights_mem c x).1 hx
 have:=(prE_V hc hi).gs
 omega
theorem pline_con {l:List Slc} {d:List Dfc} {c:List Pr} {s:Sw} {r:Rt} (h:Hy l d c s r) (X Y:an) (hX:aJ X) (hY:aJ Y) :
  bm Tryz.prog Cu.G 21 [LL l,LD d,fj c,.agg (cQ X Y),swC s,rtC r] (.tup [ef (bh l d c X Y s r),LNdss (b9 l d c X Y s r)]):=by
 have c2:=gK (gl:=Cu.G) c h.pro
 have hX0:=hX
 have hY0:=hY
 obtain ⟨x1,x2,x3⟩:=hX
 obtain ⟨y1,y2,y3⟩:=hY
 obtain ⟨s1,s2,s3,s4,s5,s6,s7,s8⟩:=h.sw
 obtain ⟨r1,r2,r3,r4,r5,r6⟩:=h.rt
 have hmem:=heights_bd h.pro
 have hzl:=heights_len c
 have hcl:=cU h.pro
 have hgf:∀ i (hi:i < (aE c).length),fG l d c X Y s r i=aN (ei l d c X Y s r (aE c)[i]) (cA Y (aE c)[i]):=fun i hi=>by unfold fG;rw [List.getD_eq_getElem?_getD,List.getElem?_eq_getElem hi];rfl
 have hff:∀ i (hi:i < (aE c).length),pFound l d c X Y s r i=aN (eU l d c X Y s r (aE c)[i]) (cA Y (aE c)[i]):=fun i hi=>by unfold pFound;rw [List.getD_eq_getElem?_getD,List.getElem?_eq_getElem hi];rfl
 unfold bh b9
 generalize aE c=hs at *
 generalize hG:fG l d c X Y s r=G at *
 generalize hFd:pFound l d c X Y s r=Fd at *
 refine ao Tryz.func21 rfl (by kernel_rfl) rfl ?_
 simp only [Tryz.ntmps21,Tryz.results21,am,ofC,aZ,List.map,swL,rtL]
 repeat' (first
 | ((with_reducible apply (ah (f:=53)));exact rfl;exact rfl;exact c2;exact rfl;exact rfl)
 | (refine bT 6 ?_ rfl br rfl ?_;(kernel_rfl);(simp only [List.take_succ_cons,List.take_zero,List.drop_succ_cons,List.drop_zero]))
 | ((with_reducible apply cy);exact rfl)
 | (refine zs ?_)
 | fail
 )
 refine bO 4 4 58 1 rfl rfl rfl rfl ?_
 refine bO 4 5 3 1 rfl rfl rfl rfl ?_
 refine bO 4 6 3 1 rfl rfl rfl rfl ?_
 refine bo 16 76 1 rfl rfl ?_
 refine au (G:=Nat) (fun (i:Nat)=>i≤hs.length) (fun (i:Nat)=>hs.length - i) (fun (i:Nat)=>[(0,.c (LL l)),(1,.c (LD d)),(2,.c (fj c)),(9,.ptr 0 0),(10,.ptr 1 0),(11,.ptr 2 0),(12,.ptr 3 0),(14,A (Y.2 - Y.1)),(15,.ptr 4 0),(16,.vec 8 i),(43,.c (LI hs)),(44,A hs.length),(45,A i)]) (fun (i:Nat)=>[(4,some (.cells 68 [A (Y.2 - Y.1),A s.kerf,A 1,.c (LI hs),.vec 5 i,.vec 6 0,.vec 7 0])),(5,some (.vec 58 1 ((aN G i).flatMap fP))),(6,some (.vec 3 1 [])),(7,some (.vec 3 1 [])),(8,some (.vec 76 1 ((aN Fd i).flatMap ndssC))),(3,some (.cells 68 [A 0,A 0,A 0,.c (.v (.slice none 0 0)),.c (.v (.slice none 0 0)),.c (.v (.slice none 0 0)),.c (.v (.slice none 0 0))])),(2,some (.cells 28 [A r.chip,A r.dust,A r.fine])),(1,some (.cells 26 [A s.kerf,A s.trim,A s.pitch,A s.step])),(0,some (.cells 37 [A X.1,A X.2,A Y.1,A Y.2]))]) 9 0 ?_ (by refine ak rfl ?_ ?_<;>repeat (first|exact ai|exact ac|refine ae rfl rfl ?_|refine ab rfl rfl rfl ?_)) rfl ?_
 ·exact Nat.zero_le _
 rintro i hI
 try dsimp only at hI
 try dsimp only
 have hgl:=aT G i
 have hfl:=aT Fd i
 by_cases hi:i < hs.length
 ·have hgi:=hgf i hi
  have hfi:=hff i hi
  obtain ⟨w1,w2⟩:=hmem _ (List.getElem_mem hi)
  repeat' (first
 | (((with_reducible apply aa);exact rfl)<;>intro hg<;>(first|(exact absurd hg (by decide))|((try simp only [qz,ge_iff_le,List.cons.injEq,and_true] at hg);first|(exact absurd trivial hg)|(exfalso;omega)|(have hT:True:=hg;clear hT hg)|skip)))
 | (refine zs ?_)
 | fail
 )
  refine bo 19 3 1 rfl rfl ?_
  refine bo 20 31 1 rfl rfl ?_
  have hcn:cA Y hs[i]=(Y.2 - Y.1 - hs[i]+1).toNat:=rfl
  refine au (G:=Nat) (fun (p:Nat)=>p≤cA Y hs[i]) (fun (p:Nat)=>cA Y hs[i] - p) (fun (p:Nat)=>[(0,.c (LL l)),(1,.c (LD d)),(2,.c (fj c)),(9,.ptr 0 0),(10,.ptr 1 0),(11,.ptr 2 0),(12,.ptr 3 0),(14,A (Y.2 - Y.1)),(15,.ptr 4 0),(16,.vec 8 i),(43,.c (LI hs)),(44,A hs.length),(45,A i),(18,A hs[i]),(19,.vec 9 p),(20,.vec 10 p),(21,A p)]) (fun (p:Nat)=>[(9,some (.vec 3 1 ((aN (ei l d c X Y s r hs[i]) p).flatMap ce))),(10,some (.vec 31 1 ((aN (eU l d c X Y s r hs[i]) p).flatMap ndsC))),(4,some (.cells 68 [A (Y.2 - Y.1),A s.kerf,A 1,.c (LI hs),.vec 5 i,.vec 6 0,.vec 7 0])),(5,some (.vec 58 1 ((aN G i).flatMap fP))),(6,some (.vec 3 1 [])),(7,some (.vec 3 1 [])),(8,some (.vec 76 1 ((aN Fd i).flatMap ndssC))),(3,some (.cells 68 [A 0,A 0,A 0,.c (.v (.slice none 0 0)),.c (.v (.slice none 0 0)),.c (.v (.slice none 0 0)),.c (.v (.slice none 0 0))])),(2,some (.cells 28 [A r.chip,A r.dust,A r.fine])),(1,some (.cells 26 [A s.kerf,A s.trim,A s.pitch,A s.step])),(0,some (.cells 37 [A X.1,A X.2,A Y.1,A Y.2]))]) 11 0 ?_ (by refine ak rfl ?_ ?_<;>repeat (first|exact ai|exact ac|refine ae rfl rfl ?_|refine ab rfl rfl rfl ?_)) rfl ?_
  ·exact Nat.zero_le _
  rintro p hI
  try dsimp only at hI
  try dsimp only
  have l1:=aT (ei l d c X Y s r hs[i]) p
  have l2:=aT (eU l d c X Y s r hs[i]) p
  by_cases hp:(p:Int)+hs[i]≤Y.2 - Y.1
  ·by_cases hm:(p:Int).tmod s.pitch=0
   ·have cs:=strip_con (gl:=Cu.G) X Y p (p+hs[i]) ⟨by unfold aQ;omega,by unfold aQ;omega⟩
    have cb:=ebest_con h X (Y.1+p,Y.1+(p+hs[i])) hX0 ⟨by dsimp only;omega,by dsimp only;omega,by dsimp only;omega⟩
    by_cases h127:(bV l d c X (Y.1+p,Y.1+(p+hs[i])) s r).length≤127
    ·rw [if_pos h127,if_pos h127,if_pos h127] at cb
     have ch:=hasBoard_con (gl:=Cu.G) (bV l d c X (Y.1+p,Y.1+(p+hs[i])) s r) (by omega)
     cases hany:(bV l d c X (Y.1+p,Y.1+(p+hs[i])) s r).any dz with
     | true =>
      rw [hany] at ch
      have hok:pOk l d c X Y s r hs[i] p:=⟨hm,h127,hany⟩
      have hrow:ei l d c X Y s r hs[i] p=TV (aU l d c X (Y.1+p,Y.1+(p+hs[i])) s r) 0:=by unfold ei;exact if_pos hok
      have hfnd:eU l d c X Y s r hs[i] p=bV l d c X (Y.1+p,Y.1+(p+hs[i])) s r:=by unfold eU;exact if_pos hok
      generalize TV (aU l d c X (Y.1+p,Y.1+(p+hs[i])) s r) 0=tv at *
      generalize bV l d c X (Y.1+p,Y.1+(p+hs[i])) s r=en at *
      repeat' (first
 | (refine aL 18 ?_ ?_;(kernel_rfl);(simp only [List.take_succ_cons,List.take_zero,List.drop_succ_cons,List.drop_zero]))
 | ((with_reducible apply bg);iterate 7 exact rfl)
 | ((with_reducible apply r_rem);exact rfl;exact rfl;omega;exact rfl)
 | ((with_reducible apply (ah (f:=23)));exact rfl;exact rfl;exact cs;exact rfl;exact rfl)
 | ((with_reducible apply (ah (f:=54)));exact rfl;exact rfl;exact cb;exact rfl;exact rfl)
 | ((with_reducible apply (ah (f:=55)));exact rfl;exact rfl;exact ch;exact rfl;exact rfl)
 | ((with_reducible apply (aH (enc:=ce) (l2:=[tv])));exact rfl;exact rfl;exact inferInstance;exact l1;exact rfl;exact (by show _+1 < _;omega);exact (by show (_+1) * _≤_;omega);exact rfl)
 | ((with_reducible apply (aH (enc:=ndsC) (l2:=[en])));exact rfl;exact rfl;exact inferInstance;exact l2;exact rfl;exact (by show _+1 < _;omega);exact (by show (_+1) * _≤_;omega);exact rfl)
 | ((first|((with_reducible apply aj);iterate 4 exact rfl)|((with_reducible apply aa);exact rfl))<;>intro hg<;>(first|(exact absurd hg (by decide))|((try simp only [qz,ge_iff_le,List.cons.injEq,and_true] at hg);first|(exact absurd trivial hg)|(exfalso;omega)|(have hT:True:=hg;clear hT hg)|skip)))
 | (refine zs ?_)
 | fail
 )
      rw [show aN (ei l d c X Y s r hs[i]) p++[tv]=aN (ei l d c X Y s r hs[i]) (p+1) from by rw [aN,hrow],show aN (eU l d c X Y s r hs[i]) p++[en]=aN (eU l d c X Y s r hs[i]) (p+1) from by rw [aN,hfnd]]
      refine ⟨p+1,?_,?_,by refine ak rfl ?_ ?_<;>repeat (first|exact ai|exact ac|refine ae rfl rfl ?_|refine ab rfl rfl rfl ?_)⟩
      ·show cA Y hs[i] - (p+1) < cA Y hs[i] - p;omega
      ·show p+1≤cA Y hs[i];omega
     | false =>
      rw [hany] at ch
      have hno:¬ pOk l d c X Y s r hs[i] p:=fun hh=>by rw [hh.2.2] at hany;cases hany
      have hrow:ei l d c X Y s r hs[i] p=-1:=by unfold ei;exact if_neg hno
      have hfnd:eU l d c X Y s r hs[i] p=[]:=by unfold eU;exact if_neg hno
      generalize TV (aU l d c X (Y.1+p,Y.1+(p+hs[i])) s r) 0=tv at *
      generalize bV l d c X (Y.1+p,Y.1+(p+hs[i])) s r=en at *
      repeat' (first
 | (refine aL 18 ?_ ?_;(kernel_rfl);(simp only [List.take_succ_cons,List.take_zero,List.drop_succ_cons,List.drop_zero]))
 | ((with_reducible apply (ah (f:=23)));exact rfl;exact rfl;exact cs;exact rfl;exact rfl)
 | ((with_reducible apply (ah (f:=54)));exact rfl;exact rfl;exact cb;exact rfl;exact rfl)
 | ((with_reducible apply (ah (f:=55)));exact rfl;exact rfl;exact ch;exact rfl;exact rfl)
 | ((with_reducible apply bg);iterate 7 exact rfl)
 | ((with_reducible apply r_rem);exact rfl;exact rfl;omega;exact rfl)
 | (refine bo 23 49 2 rfl rfl ?_)
 | ((with_reducible apply (ck 90));iterate 3 exact rfl)
 | ((with_reducible apply (aH (enc:=ce) (l2:=[(-1:Int)])));exact rfl;exact rfl;exact inferInstance;exact l1;exact rfl;exact (by show _+1 < _;omega);exact (by show (_+1) * _≤_;omega);exact rfl)
 | ((with_reducible apply (aH (enc:=ndsC) (l2:=[([]:List Nd)])));exact rfl;exact rfl;exact inferInstance;exact l2;exact rfl;exact (by show _+1 < _;omega);exact (by show (_+1) * _≤_;omega);exact rfl)
 | ((first|((with_reducible apply aj);iterate 4 exact rfl)|((with_reducible apply aa);exact rfl))<;>intro hg<;>(first|(exact absurd hg (by decide))|((try simp only [qz,ge_iff_le,List.cons.injEq,and_true] at hg);first|(exact absurd trivial hg)|(exfalso;omega)|(have hT:True:=hg;clear hT hg)|skip)))
 | (refine zs ?_)
 | fail
 )
      rw [show aN (ei l d c X Y s r hs[i]) p++[(-1:Int)]=aN (ei l d c X Y s r hs[i]) (p+1) from by rw [aN,hrow],show aN (eU l d c X Y s r hs[i]) p++[([]:List Nd)]=aN (eU l d c X Y s r hs[i]) (p+1) from by rw [aN,hfnd]]
      refine ⟨p+1,?_,?_,by refine ak rfl ?_ ?_<;>repeat (first|exact ai|exact ac|refine ae rfl rfl ?_|refine ab rfl rfl rfl ?_)⟩
      ·show cA Y hs[i] - (p+1) < cA Y hs[i] - p;omega
      ·show p+1≤cA Y hs[i];omega
    ·rw [if_neg h127,if_neg h127,if_neg h127] at cb
     have hno:¬ pOk l d c X Y s r hs[i] p:=fun hh=>h127 hh.2.1
     have hrow:ei l d c X Y s r hs[i] p=-1:=by unfold ei;exact if_neg hno
     have hfnd:eU l d c X Y s r hs[i] p=[]:=by unfold eU;exact if_neg hno
     repeat' (first
 | (refine aL 18 ?_ ?_;(kernel_rfl);(simp only [List.take_succ_cons,List.take_zero,List.drop_succ_cons,List.drop_zero]))
 | ((with_reducible apply (ah (f:=23)));exact rfl;exact rfl;exact cs;exact rfl;exact rfl)
 | ((with_reducible apply (ah (f:=54)));exact rfl;exact rfl;exact cb;exact rfl;exact rfl)
 | ((with_reducible apply bg);iterate 7 exact rfl)
 | ((with_reducible apply r_rem);exact rfl;exact rfl;omega;exact rfl)
 | (refine bo 23 49 2 rfl rfl ?_)
 | ((with_reducible apply (ck 90));iterate 3 exact rfl)
 | ((with_reducible apply (aH (enc:=ce) (l2:=[(-1:Int)])));exact rfl;exact rfl;exact inferInstance;exact l1;exact rfl;exact (by show _+1 < _;omega);exact (by show (_+1) * _≤_;omega);exact rfl)
 | ((with_reducible apply (aH (enc:=ndsC) (l2:=[([]:List Nd)])));exact rfl;exact rfl;exact inferInstance;exact l2;exact rfl;exact (by show _+1 < _;omega);exact (by show (_+1) * _≤_;omega);exact rfl)
 | ((first|((with_reducible apply aj);iterate 4 exact rfl)|((with_reducible apply aa);exact rfl))<;>intro hg<;>(first|(exact absurd hg (by decide))|((try simp only [qz,ge_iff_le,List.cons.injEq,and_true] at hg);first|(exact absurd trivial hg)|(exfalso;omega)|(have hT:True:=hg;clear hT hg)|skip)))
 | (refine zs ?_)
 | fail
 )
     rw [show aN (ei l d c X Y s r hs[i]) p++[(-1:Int)]=aN (ei l d c X Y s r hs[i]) (p+1) from by rw [aN,hrow],show aN (eU l d c X Y s r hs[i]) p++[([]:List Nd)]=aN (eU l d c X Y s r hs[i]) (p+1) from by rw [aN,hfnd]]
     refine ⟨p+1,?_,?_,by refine ak rfl ?_ ?_<;>repeat (first|exact ai|exact ac|refine ae rfl rfl ?_|refine ab rfl rfl rfl ?_)⟩
     ·show cA Y hs[i] - (p+1) < cA Y hs[i] - p;omega
     ·show p+1≤cA Y hs[i];omega
   ·have hno:¬ pOk l d c X Y s r hs[i] p:=fun hh=>hm hh.1
    have hrow:ei l d c X Y s r hs[i] p=-1:=by unfold ei;exact if_neg hno
    have hfnd:eU l d c X Y s r hs[i] p=[]:=by unfold eU;exact if_neg hno
    repeat' (first
 | ((with_reducible apply bg);iterate 7 exact rfl)
 | ((with_reducible apply r_rem);exact rfl;exact rfl;omega;exact rfl)
 | (refine bo 23 49 2 rfl rfl ?_)
 | ((with_reducible apply (ck 90));iterate 3 exact rfl)
 | ((with_reducible apply (aH (enc:=ce) (l2:=[(-1:Int)])));exact rfl;exact rfl;exact inferInstance;exact l1;exact rfl;exact (by show _+1 < _;omega);exact (by show (_+1) * _≤_;omega);exact rfl)
 | ((with_reducible apply (aH (enc:=ndsC) (l2:=[([]:List Nd)])));exact rfl;exact rfl;exact inferInstance;exact l2;exact rfl;exact (by show _+1 < _;omega);exact (by show (_+1) * _≤_;omega);exact rfl)
 | (((with_reducible apply aa);exact rfl)<;>intro hg<;>(first|(exact absurd hg (by decide))|((try simp only [qz,ge_iff_le,List.cons.injEq,and_true] at hg);first|(exact absurd trivial hg)|(exfalso;omega)|(have hT:True:=hg;clear hT hg)|skip)))
 | (refine zs ?_)
 | fail
 )
    rw [show aN (ei l d c X Y s r hs[i]) p++[(-1:Int)]=aN (ei l d c X Y s r hs[i]) (p+1) from by rw [aN,hrow],show aN (eU l d c X Y s r hs[i]) p++[([]:List Nd)]=aN (eU l d c X Y s r hs[i]) (p+1) from by rw [aN,hfnd]]
    refine ⟨p+1,?_,?_,by refine ak rfl ?_ ?_<;>repeat (first|exact ai|exact ac|refine ae rfl rfl ?_|refine ab rfl rfl rfl ?_)⟩
    ·show cA Y hs[i] - (p+1) < cA Y hs[i] - p;omega
    ·show p+1≤cA Y hs[i];omega
  ·obtain rfl:p=cA Y hs[i]:=by omega
   repeat' (first
 | ((with_reducible apply (ck 95));exact rfl;exact rfl;exact (by rw [av EncL.len,l1]))
 | ((with_reducible apply (ck 100));exact rfl;exact rfl;exact (by rw [av EncL.len,l2]))
 | ((with_reducible apply bg);iterate 7 exact rfl)
 | ((with_reducible apply (aH (enc:=fP) (l2:=[aN (ei l d c X Y s r hs[i]) (cA Y hs[i])])));exact rfl;exact rfl;exact inferInstance;exact hgl;exact rfl;exact (by show _+1 < _;omega);exact (by show (_+1) * _≤_;omega);exact rfl)
 | ((with_reducible apply (aH (enc:=ndssC) (l2:=[aN (eU l d c X Y s r hs[i]) (cA Y hs[i])])));exact rfl;exact rfl;exact inferInstance;exact hfl;exact rfl;exact (by show _+1 < _;omega);exact (by show (_+1) * _≤_;omega);exact rfl)
 | (((with_reducible apply aa);exact rfl)<;>intro hg<;>(first|(exact absurd hg (by decide))|((try simp only [qz,ge_iff_le,List.cons.injEq,and_true] at hg);first|(exact absurd trivial hg)|(exfalso;omega)|(have hT:True:=hg;clear hT hg)|skip)))
 | (refine zs ?_)
 | fail
 )
   rw [show aN G i++[aN (ei l d c X Y s r hs[i]) (cA Y hs[i])]=aN G (i+1) from by rw [aN,hgi],show aN Fd i++[aN (eU l d c X Y s r hs[i]) (cA Y hs[i])]=aN Fd (i+1) from by rw [aN,hfi]]
   refine ⟨i+1,?_,?_,by refine ak rfl ?_ ?_<;>repeat (first|exact ai|exact ac|refine ae rfl rfl ?_|refine ab rfl rfl rfl ?_)⟩
   ·show hs.length - (i+1) < hs.length - i;omega
   ·show i+1≤hs.length;omega
 ·obtain rfl:i=hs.length:=by omega
  repeat' (first
 | (((with_reducible apply aa);exact rfl)<;>intro hg<;>(first|(exact absurd hg (by decide))|((try simp only [qz,ge_iff_le,List.cons.injEq,and_true] at hg);first|(exact absurd trivial hg)|(exfalso;omega)|(have hT:True:=hg;clear hT hg)|skip)))
 | (refine zs ?_)
 | fail
 )
  obtain ⟨n,hn⟩:∃ n:Nat,Y.2 - Y.1=(n:Int):=⟨(Y.2 - Y.1).toNat,by omega⟩
  have hnt:(Y.2 - Y.1).toNat=n:=by omega
  rw [hnt]
  have hwood:∀ k p,dW l X Y k p=k * bH l X (Y.1+p,Y.1+(p+1)) (0,aw l):=fun _ _=>rfl
  have c4:=fun p:Int=>volume_con (gl:=Cu.G) l h.ln X (Y.1+p,Y.1+(p+1))
  have b1:=fun p:Int=>Ge.cD l X (Y.1+p,Y.1+(p+1)) (0,aw l)
  refine au (G:=Nat) (fun (p:Nat)=>p≤n) (fun (p:Nat)=>n - p) (fun (p:Nat)=>[(0,.c (LL l)),(9,.ptr 0 0),(11,.ptr 2 0),(12,.ptr 3 0),(15,.ptr 4 0),(16,.vec 8 hs.length),(104,A (Y.2 - Y.1)),(105,A p)]) (fun (p:Nat)=>[(4,some (.cells 68 [A (Y.2 - Y.1),A s.kerf,A 1,.c (LI hs),.vec 5 hs.length,.vec 6 p,.vec 7 p])),(5,some (.vec 58 1 ((aN G hs.length).flatMap fP))),(6,some (.vec 3 1 ((aN (dW l X Y r.chip) p).flatMap ce))),(7,some (.vec 3 1 ((aN (dW l X Y r.dust) p).flatMap ce))),(8,some (.vec 76 1 ((aN Fd hs.length).flatMap ndssC))),(3,some (.cells 68 [A 0,A 0,A 0,.c (.v (.slice none 0 0)),.c (.v (.slice none 0 0)),.c (.v (.slice none 0 0)),.c (.v (.slice none 0 0))])),(2,some (.cells 28 [A r.chip,A r.dust,A r.fine])),(0,some (.cells 37 [A X.1,A X.2,A Y.1,A Y.2]))]) 9 0 ?_ (by refine ak rfl ?_ ?_<;>repeat (first|exact ai|exact ac|refine ae rfl rfl ?_|refine ab rfl rfl rfl ?_)) rfl ?_
  ·exact Nat.zero_le _
  rintro p hI
  try dsimp only at hI
  try dsimp only
  have l1:=aT (dW l X Y r.chip) p
  have l2:=aT (dW l X Y r.dust) p
  by_cases hp:p < n
  ·have cs:=strip_con (gl:=Cu.G) X Y p (p+1) ⟨by unfold aQ;omega,by unfold aQ;omega⟩
   have c5:=c4 p
   have b2:=b1 p
   have w1:=hwood r.chip p
   have w2:=hwood r.dust p
   generalize bH l X (Y.1+(p:Int),Y.1+((p:Int)+1)) (0,aw l)=v at *
   have m1:=d8 ⟨r1,r2⟩ b2
   have m2:=d8 ⟨r3,r4⟩ b2
   have f1:aQ (r.chip * v):=by unfold aQ;omega
   have f2:aQ (r.dust * v):=by unfold aQ;omega
   repeat' (first
 | ((with_reducible apply bg);iterate 7 exact rfl)
 | ((with_reducible apply (ah (f:=23)));exact rfl;exact rfl;exact cs;exact rfl;exact rfl)
 | ((with_reducible apply (ah (f:=27)));exact rfl;exact rfl;exact c5;exact rfl;exact rfl)
 | ((with_reducible apply (aH (enc:=ce) (l2:=[r.chip * v])));exact rfl;exact rfl;exact inferInstance;exact l1;exact rfl;exact (by show _+1 < _;omega);exact (by show (_+1) * _≤_;omega);exact rfl)
 | ((with_reducible apply (aH (enc:=ce) (l2:=[r.dust * v])));exact rfl;exact rfl;exact inferInstance;exact l2;exact rfl;exact (by show _+1 < _;omega);exact (by show (_+1) * _≤_;omega);exact rfl)
 | (((with_reducible apply aa);exact rfl)<;>intro hg<;>(first|(exact absurd hg (by decide))|((try simp only [qz,ge_iff_le,List.cons.injEq,and_true] at hg);first|(exact absurd trivial hg)|(exfalso;omega)|(have hT:True:=hg;clear hT hg)|skip)))
 | (refine zs ?_)
 | fail
 )
   rw [show aN (dW l X Y r.chip) p++[r.chip * v]=aN (dW l X Y r.chip) (p+1) from by rw [aN,w1],show aN (dW l X Y r.dust) p++[r.dust * v]=aN (dW l X Y r.dust) (p+1) from by rw [aN,w2]]
   refine ⟨p+1,?_,?_,by refine ak rfl ?_ ?_<;>repeat (first|exact ai|exact ac|refine ae rfl rfl ?_|refine ab rfl rfl rfl ?_)⟩
   ·show n - (p+1) < n - p;omega
   ·show p+1≤n;omega
  ·obtain rfl:p=n:=by omega
   repeat' (first
 | (((with_reducible apply aa);exact rfl)<;>intro hg<;>(first|(exact absurd hg (by decide))|((try simp only [qz,ge_iff_le,List.cons.injEq,and_true] at hg);first|(exact absurd trivial hg)|(exfalso;omega)|(have hT:True:=hg;clear hT hg)|skip)))
 | (refine zs ?_)
 | fail
 )
   all_goals exact bJ (.cons (.cell_a inferInstance rfl rfl rfl rfl (al ap (al ap (al ap (al ap (al (bx rfl (by rw [av EncL.len,hgl])) (al (bx rfl (by rw [av EncL.len,l1])) (al (bx rfl (by rw [av EncL.len,l2])) bj)))))))) (.cons (.tmp rfl (bx rfl (by rw [av EncL.len,hfl]))) .nil))
end Go.Proofs.YtdndfncpglfdeaaGreatDoor.Tp
