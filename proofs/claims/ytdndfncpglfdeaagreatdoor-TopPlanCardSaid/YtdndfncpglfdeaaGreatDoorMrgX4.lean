/- PL PT: texts laid together. -/
import Derived.Test.YtdndfncpglfdeaaGreatDoorMrgX3
import Derived.Test.YtdndfncpglfdeaaGreatDoorMrgE6
import Derived.Test.YtdndfncpglfdeaaGreatDoorMrgS
set_option maxRecDepth 100000
set_option maxHeartbeats 64000000

namespace Go.Proofs.YtdndfncpglfdeaaGreatDoor.Tp
set_option linter.unusedVariables false
set_option linter.unusedSimpArgs false
open Go.RowKit Go.Proofs.YtdndfncpglfdeaaGreatDoor.Ev
open Go.Proofs.YtdndfncpglfdeaaGreatDoor.Cu (I LI ce fP LS gw)
open Go.Proofs.YtdndfncpglfdeaaGreatDoor.Ge (an aG)
variable {gl:List (Nat×List CV)}
def ndC (x:Nd):List CV:=[I x.1,I x.2]
instance:EncL ndC 2:=⟨fun _=>rfl,by decide,fun _=>rfl⟩
abbrev fY (l:List Nd):CV:=.lst 2 (l.flatMap ndC)
def ndsC (l:List Nd):List CV:=[fY l]
instance:EncL ndsC 1:=⟨fun _=>rfl,by decide,fun _=>rfl⟩
abbrev LNds (l:List (List Nd)):CV:=.lst 1 (l.flatMap ndsC)
theorem cX (k:Int):bm Tryz.prog gl 59 [I k] (BO (decide (k=2) || decide (k=3))):=by
 refine ao Tryz.func59 rfl (by kernel_rfl) rfl ?_
 simp only [Tryz.ntmps59,Tryz.results59,am,ofC,aZ,List.map]
 by_cases h1:k=2<;>by_cases h2:k=3<;>simp only [h1,h2,decide_true,decide_false,Bool.or_true,Bool.or_false]
 all_goals
  repeat' (first
 | (((with_reducible apply aj);iterate 4 exact rfl)<;>intro hg<;>(first|(exact absurd hg (by decide))|((try simp only [qz,ge_iff_le,List.cons.injEq,and_true] at hg);first|(exact absurd trivial hg)|(exfalso;omega)|(have hT:True:=hg;clear hT hg)|skip)))
 | (refine zs ?_)
 | fail
 )
  all_goals exact aK rfl (by simp [*])
theorem isFrame_con (X Y:an) (hX:aJ X) (hY:aJ Y):bm Tryz.prog gl 60 [.agg (cQ X Y)] (BO true):=by
 obtain ⟨x1,x2,x3⟩:=hX
 obtain ⟨y1,y2,y3⟩:=hY
 refine ao Tryz.func60 rfl (by kernel_rfl) rfl ?_
 simp only [Tryz.ntmps60,Tryz.results60,am,ofC,aZ,List.map]
 repeat' (first
 | ((with_reducible apply (dL (out:=[A X.1,A X.2,A Y.1,A Y.2])));iterate 3 exact rfl)
 | (refine zs ?_)
 | fail
 )
 refine au (G:=Nat) (fun (k:Nat)=>k≤2) (fun (k:Nat)=>2 - k) (fun (k:Nat)=>[(1,.ptr 0 0),(2,.c (BO false)),(9,.agg [A X.1,A X.2,A Y.1,A Y.2]),(10,A k)]) (fun (k:Nat)=>[(0,some (.cells 37 [A X.1,A X.2,A Y.1,A Y.2]))]) 1 0 ?_ (by refine ak rfl ?_ ?_<;>repeat (first|exact ai|exact ac|refine ae rfl rfl ?_|refine ab rfl rfl rfl ?_)) rfl ?_
 ·exact Nat.zero_le _
 rintro k hI
 try dsimp only at hI
 try dsimp only
 have hc:k=0∨k=1∨k=2:=by omega
 rcases hc with rfl|rfl|rfl
 ·skip
  repeat' (first
 | ((with_reducible apply (fN 0));(iterate 3 exact rfl);decide;exact Nat.le_of_ble_eq_true rfl;exact rfl;exact rfl)
 | ((first|((with_reducible apply aj);iterate 4 exact rfl)|((with_reducible apply aa);exact rfl))<;>intro hg<;>(first|(exact absurd hg (by decide))|((try simp only [qz,ge_iff_le,List.cons.injEq,and_true] at hg);first|(exact absurd trivial hg)|(exfalso;omega)|(have hT:True:=hg;clear hT hg)|skip)))
 | (refine zs ?_)
 | fail
 )
  refine ⟨1,?_,?_,by refine ak rfl ?_ ?_<;>repeat (first|exact ai|exact ac|refine ae rfl rfl ?_|refine ab rfl rfl rfl ?_)⟩
  ·decide
  ·decide
 ·skip
  repeat' (first
 | ((with_reducible apply (fN 1));(iterate 3 exact rfl);decide;exact Nat.le_of_ble_eq_true rfl;exact rfl;exact rfl)
 | ((first|((with_reducible apply aj);iterate 4 exact rfl)|((with_reducible apply aa);exact rfl))<;>intro hg<;>(first|(exact absurd hg (by decide))|((try simp only [qz,ge_iff_le,List.cons.injEq,and_true] at hg);first|(exact absurd trivial hg)|(exfalso;omega)|(have hT:True:=hg;clear hT hg)|skip)))
 | (refine zs ?_)
 | fail
 )
  refine ⟨2,?_,?_,by refine ak rfl ?_ ?_<;>repeat (first|exact ai|exact ac|refine ae rfl rfl ?_|refine ab rfl rfl rfl ?_)⟩
  ·decide
  ·decide
 ·skip
  repeat' (first
 | (((with_reducible apply aa);exact rfl)<;>intro hg<;>(first|(exact absurd hg (by decide))|((try simp only [qz,ge_iff_le,List.cons.injEq,and_true] at hg);first|(exact absurd trivial hg)|(exfalso;omega)|(have hT:True:=hg;clear hT hg)|skip)))
 | (refine zs ?_)
 | fail
 )
  all_goals exact aK rfl rfl
abbrev dx (r:aG):CV:=.agg (cQ r.1 r.2)
theorem along_con (r:aG) (ax:Int):bm Tryz.prog gl 62 [dx r,I ax] (.agg [I (aD r ax).1,I (aD r ax).2]):=by
 unfold aD
 by_cases h:ax=2
 ·rw [if_pos h]
  refine ao Tryz.func62 rfl (by kernel_rfl) rfl ?_
  simp only [Tryz.ntmps62,Tryz.results62,am,ofC,aZ,List.map]
  repeat' (first
 | (((with_reducible apply aa);exact rfl)<;>intro hg<;>(first|(exact absurd hg (by decide))|((try simp only [qz,ge_iff_le,List.cons.injEq,and_true] at hg);first|(exact absurd trivial hg)|(exfalso;omega)|(have hT:True:=hg;clear hT hg)|skip)))
 | (refine zs ?_)
 | fail
 )
  all_goals exact cL (.cell_a inferInstance rfl rfl rfl rfl (al ap (al ap bj)))
 ·rw [if_neg h]
  refine ao Tryz.func62 rfl (by kernel_rfl) rfl ?_
  simp only [Tryz.ntmps62,Tryz.results62,am,ofC,aZ,List.map]
  repeat' (first
 | (((with_reducible apply aa);exact rfl)<;>intro hg<;>(first|(exact absurd hg (by decide))|((try simp only [qz,ge_iff_le,List.cons.injEq,and_true] at hg);first|(exact absurd trivial hg)|(exfalso;omega)|(have hT:True:=hg;clear hT hg)|skip)))
 | (refine zs ?_)
 | fail
 )
  all_goals exact cL (.cell_a inferInstance rfl rfl rfl rfl (al ap (al ap bj)))
def bS (k ax B:Int):Int→List (an×List Nd)→List Nd
 | _,[]=>[(0,0)]
 | e,x::ps=>(if e < x.1.1 then [(ax,x.1.1 - k),(0,0)] else [])++((if x.1.2 < B then [(ax,x.1.2)] else [])++(x.2++if x.1.2 < B then bS k ax B (min (x.1.2+k) B) ps else []))
def eK (k B:Int):Int→List an→Prop
 | _,[]=>True
 | e,s::ps=>s.1 < s.2∧s.2≤B∧(s.1=e∨e+k+1≤s.1)∧(s.2=B→ps=[])∧eK k B (min (s.2+k) B) ps
def ik (l0:List Nd) (gv:Int) (l2:List Nd):List Nd:=if gv+l2.length≤127 then l0++l2 else l0
section
variable {ops:Array Oper} {Q:Exit→St→Prop} {rest:List Oper} {d:Nat} {ty:TypeId} {pos:String} {af:Array Edge} {n:Nat} {env:List (Nat×AV)} {heap:List (Nat×Option AB)} {nx:Nat} {tys:Array TypeId}
theorem cd {cf x:Operand} {bc bn bv m:Nat} {gv:Int} (l0 l2:List Nd) (hcf:St.ev ⟨n,env,heap,nx,gl⟩ cf=some (.fn 61 [.ptr bc 0,.ptr bn 0])) (hx:evs ⟨n,env,heap,nx,gl⟩ [x]=some [.c (fY l2)]) (h1:Ev.bf bc heap=some (some (.cells 3 [A gv]))) (h2:Ev.bf bn heap=some (some (.cells 31 [.vec bv m]))) (h3:Ev.bf bv heap=some (some (.vec 49 2 (l0.flatMap ndC)))) (hm:l0.length=m) (n1:bc≠bn) (n2:bc≠bv) (n3:bn≠bv) (hc:0≤gv∧gv≤1000000) (hl:l2.length≤1000000) (hl0:(l0.length:Int)≤gv) (hd:Nat.blt d n=true)
  (h:aP Tryz.prog ops Q rest ⟨n,(d,.tup [])::env,(bn,some (.cells 31 [.vec bv (ik l0 gv l2).length]))::(bv,some (.vec 49 2 ((ik l0 gv l2).flatMap ndC)))::(bc,some (.cells 3 [A (gv+l2.length)]))::heap,nx,gl⟩) :
  aP Tryz.prog ops Q (⟨some d,.call ⟨.value cf,#[x],tys⟩,ty,pos,af,none⟩::rest) ⟨n,env,heap,nx,gl⟩:=by
 refine r_in0F (args:=[x]) Tryz.func61 rfl Tryz.results61 (by kernel_rfl) Tryz.ntmps61 hcf hx rfl rfl hd ?_
 have g1:∀ q x,Ev.bf q ((bc,x)::heap)=if bc=q then some x else Ev.bf q heap:=fun q x=>az _ _ _ _
 by_cases hle:gv+l2.length≤127
 ·have e:ik l0 gv l2=l0++l2:=by unfold ik;rw [if_pos hle]
  rw [e,List.length_append,hm] at h
  repeat' (first
 | ((with_reducible apply gm);exact rfl;exact (by unfold St.H;dsimp only;rw [h1]);exact rfl;exact rfl)
 | ((with_reducible apply gm);exact rfl;exact (by unfold St.H;dsimp only;rw [az,if_pos rfl]);exact rfl;exact rfl)
 | ((with_reducible apply gm);exact rfl;exact (by unfold St.H;dsimp only;rw [az,if_neg n1,h2]);exact rfl;exact rfl)
 | ((with_reducible apply (aH (enc:=ndC) (l2:=l2)));exact rfl;exact (by unfold St.H;dsimp only;rw [az,if_neg n2,h3]);exact inferInstance;exact hm;exact rfl;exact (by omega);exact (by omega);exact rfl)
 | ((with_reducible apply ip);(iterate 4 exact rfl);exact (by unfold St.H;dsimp only;rw [h1]);exact rfl)
 | ((with_reducible apply ip);(iterate 4 exact rfl);exact (by unfold St.H;dsimp only;rw [az,if_neg (Ne.symm n3),az,if_neg n1,h2]);exact rfl)
 | (((with_reducible apply aa);exact rfl)<;>intro hg<;>(first|(exact absurd hg (by decide))|((try simp only [qz,ge_iff_le,List.cons.injEq,and_true] at hg);first|(exact absurd trivial hg)|(exfalso;omega)|(have hT:True:=hg;clear hT hg)|skip)))
 | (refine zs ?_)
 | fail
 )
  all_goals exact back0_normal h
 ·have e:ik l0 gv l2=l0:=by unfold ik;rw [if_neg hle]
  rw [e,hm] at h
  repeat' (first
 | ((with_reducible apply gm);exact rfl;exact (by unfold St.H;dsimp only;rw [h1]);exact rfl;exact rfl)
 | ((with_reducible apply gm);exact rfl;exact (by unfold St.H;dsimp only;rw [az,if_pos rfl]);exact rfl;exact rfl)
 | ((with_reducible apply gm);exact rfl;exact (by unfold St.H;dsimp only;rw [az,if_neg n1,h2]);exact rfl;exact rfl)
 | ((with_reducible apply (aH (enc:=ndC) (l2:=l2)));exact rfl;exact (by unfold St.H;dsimp only;rw [az,if_neg n2,h3]);exact inferInstance;exact hm;exact rfl;exact (by omega);exact (by omega);exact rfl)
 | ((with_reducible apply ip);(iterate 4 exact rfl);exact (by unfold St.H;dsimp only;rw [h1]);exact rfl)
 | ((with_reducible apply ip);(iterate 4 exact rfl);exact (by unfold St.H;dsimp only;rw [az,if_neg (Ne.symm n3),az,if_neg n1,h2]);exact rfl)
 | (((with_reducible apply aa);exact rfl)<;>intro hg<;>(first|(exact absurd hg (by decide))|((try simp only [qz,ge_iff_le,List.cons.injEq,and_true] at hg);first|(exact absurd trivial hg)|(exfalso;omega)|(have hT:True:=hg;clear hT hg)|skip)))
 | (refine zs ?_)
 | fail
 )
  all_goals
   refine back0_normal (ao_heapEq (fun b=>?_) h)
   unfold St.H
   dsimp only
   by_cases b1:bc=b
   ·subst b1
    rw [az,if_pos rfl,az,if_neg (Ne.symm n1),az,if_neg (Ne.symm n2),az,if_pos rfl];rfl
   ·rw [az,if_neg b1]
    by_cases b2:bn=b
    ·subst b2
     rw [az,if_pos rfl,h2]
    ·rw [az,if_neg b2]
     by_cases b3:bv=b
     ·subst b3
      rw [az,if_pos rfl,h3]
     ·rw [az,if_neg b3,az,if_neg b1]
end
theorem aS {l0 l2:List Nd} {gv:Int} (h:(l0.length:Int)≤gv):((ik l0 gv l2).length:Int)≤gv+l2.length:=by
 unfold ik
 split
 ·rw [List.length_append];omega
 ·omega
theorem eC {FL N l2:List Nd} {gv:Int} (h:gv=FL.length) (hN:FL.length≤127→N=FL):(FL++l2).length≤127→ik N gv l2=FL++l2:=by
 intro hl
 rw [List.length_append] at hl
 unfold ik
 rw [if_pos (by omega),hN (by omega)]
theorem zip_drop {α β:Type}:∀ (a:List α) (b:List β) (j:Nat) (h1:j < a.length) (h2:j < b.length),(a.zip b).drop j=(a[j],b[j])::(a.zip b).drop (j+1)
 | x::a,y::b,0,_,_=>rfl
 | x::a,y::b,j+1,h1,h2=>by
  simp only [List.zip_cons_cons,List.drop_succ_cons,List.getElem_cons_succ]
  exact zip_drop a b j _ _
theorem row_con (R:aG) (ax k:Int) (hax:ax=2∨ax=3) (hk:0≤k∧k≤20) (hX:aJ R.1) (hY:aJ R.2) (ats:List an) (ns:List (List Nd)) (hlen:ats.length=ns.length) (hL:ats.length≤100000)
  (hok:eK k (aD R ax).2 (aD R ax).1 ats) (hT:(bS k ax (aD R ax).2 (aD R ax).1 (ats.zip ns)).length≤100000) :
  bm Tryz.prog gl 25 [dx R,I ax,I k,LS ats,LNds ns] (.tup [fY (if (bS k ax (aD R ax).2 (aD R ax).1 (ats.zip ns)).length≤127 then bS k ax (aD R ax).2 (aD R ax).1 (ats.zip ns) else []),I (if (bS k ax (aD R ax).2 (aD R ax).1 (ats.zip ns)).length≤127 then 0 else 4)]):=by
 have c1:=cX (gl:=gl) ax
 rw [show (decide (ax=2) || decide (ax=3))=true by rcases hax with h|h<;>simp [h]] at c1
 have c2:=isFrame_con (gl:=gl) R.1 R.2 hX hY
 have c3:=along_con (gl:=gl) R ax
 have hAB:-600≤(aD R ax).1∧(aD R ax).1 < (aD R ax).2∧(aD R ax).2≤600:=by
  unfold aD;split
  ·exact hX
  ·exact hY
 generalize hA0:(aD R ax).1=A0 at *
 generalize hB:(aD R ax).2=B at *
 generalize hfull:bS k ax B A0 (ats.zip ns)=full at *
 obtain ⟨⟨X1,X2⟩,⟨Y1,Y2⟩⟩:=R
 dsimp only at c2
 refine ao Tryz.func25 rfl (by kernel_rfl) rfl ?_
 simp only [Tryz.ntmps25,Tryz.results25,am,ofC,aZ,List.map]
 repeat' (first
 | ((with_reducible apply (ah (f:=59)));exact rfl;exact rfl;exact c1;exact rfl;exact rfl)
 | ((with_reducible apply (ah (f:=60)));exact rfl;exact rfl;exact c2;exact rfl;exact rfl)
 | ((with_reducible apply (ah (f:=62)));exact rfl;exact rfl;exact c3;exact rfl;exact rfl)
 | ((with_reducible apply gb);exact rfl;exact rfl)
 | ((first|((with_reducible apply aj);iterate 4 exact rfl)|((with_reducible apply aa);exact rfl))<;>intro hg<;>(first|(exact absurd hg (by decide))|((try simp only [qz,ge_iff_le,List.cons.injEq,and_true] at hg);first|(exact absurd trivial hg)|(exfalso;omega)|(have hT:True:=hg;clear hT hg)|skip)))
 | (refine zs ?_)
 | fail
 )
 refine bO 1 0 49 2 rfl rfl rfl rfl ?_
 refine au (G:=Nat×Int×Bool×List Nd×List Nd×Int) (fun ((j,e,en,FL,N,gv):Nat×Int×Bool×List Nd×List Nd×Int)=>j≤ats.length∧gv=FL.length∧(N.length:Int)≤gv∧(FL.length≤127→N=FL)∧((en=false∧FL++bS k ax B e ((ats.zip ns).drop j)=full∧eK k B e (ats.drop j)∧A0≤e∧e≤B)∨(en=true∧FL=full∧j=ats.length))) (fun ((j,e,en,FL,N,gv):Nat×Int×Bool×List Nd×List Nd×Int)=>ats.length - j) (fun ((j,e,en,FL,N,gv):Nat×Int×Bool×List Nd×List Nd×Int)=>[(1,A ax),(2,A k),(3,.c (LS ats)),(4,.c (LNds ns)),(12,.ptr 1 0),(13,.ptr 2 0),(14,.fn 61 [.ptr 2 0,.ptr 1 0]),(15,.ptr 3 0),(16,A e),(17,.c (BO en)),(45,.c (LS ats)),(46,A ats.length),(47,A j)]) (fun ((j,e,en,FL,N,gv):Nat×Int×Bool×List Nd×List Nd×Int)=>[(3,some (.cells 35 [A A0,A B])),(2,some (.cells 3 [A gv])),(1,some (.cells 31 [.vec 4 N.length])),(4,some (.vec 49 2 (N.flatMap ndC)))]) 5 (0,A0,false,[],[],0) ?_ (by refine ak rfl ?_ ?_<;>repeat (first|exact ai|exact ac|refine ae rfl rfl ?_|refine ab rfl rfl rfl ?_)) rfl ?_
 ·exact ⟨Nat.zero_le _,rfl,by decide,fun _=>rfl,.inl ⟨rfl,hfull,hok,Int.le_refl _,by omega⟩⟩
 rintro ⟨j,e,en,FL,N,gv⟩ hI
 try dsimp only at hI
 try dsimp only
 obtain ⟨hj,hcnt,hN0,hN,hst⟩:=hI
 by_cases hjl:j < ats.length
 ·rcases hst with ⟨rfl,hf,ho,he0,he1⟩|⟨_,_,h⟩
  rotate_left
  ·omega
  have hz:=zip_drop ats ns j hjl (by omega)
  rw [hz] at hf
  rw [List.drop_eq_getElem_cons hjl] at ho
  have hjn:j < ns.length:=by omega
  have es:ats[j]=(ats[j].1,ats[j].2):=rfl
  obtain ⟨g1,g2,g3,g4,g5⟩:=ho
  have hdr:ats[j].2=B→j+1=ats.length:=fun h=>by have:=g4 h;have:=List.drop_eq_nil_iff.1 this;omega
  unfold bS at hf
  dsimp only at hf
  have hlf:FL.length+ns[j].length≤100000:=by
   have:=congrArg List.length hf
   simp only [List.length_append] at this
   omega
  by_cases ha:e < ats[j].1
  ·rw [if_pos ha] at hf
   by_cases hb:ats[j].2 < B
   ·rw [if_pos hb,if_pos hb] at hf
    repeat' (first
 | ((with_reducible apply bg);iterate 7 exact rfl)
 | ((with_reducible apply (cd (bc:=2) (bn:=1) (bv:=4) (l2:=[(ax,ats[j].1 - k),(0,0)])));(iterate 6 exact rfl);decide;decide;decide;((try simp only [List.length_cons,List.length_nil]);omega);((try simp only [List.length_cons,List.length_nil]);omega);(first|exact hN0|exact aS hN0|exact aS (aS hN0));exact rfl)
 | ((with_reducible apply (cd (bc:=2) (bn:=1) (bv:=4) (l2:=[(ax,ats[j].2)])));(iterate 6 exact rfl);decide;decide;decide;((try simp only [List.length_cons,List.length_nil]);omega);((try simp only [List.length_cons,List.length_nil]);omega);(first|exact hN0|exact aS hN0|exact aS (aS hN0));exact rfl)
 | ((with_reducible apply (cd (bc:=2) (bn:=1) (bv:=4) (l2:=ns[j])));(iterate 6 exact rfl);decide;decide;decide;((try simp only [List.length_cons,List.length_nil]);omega);((try simp only [List.length_cons,List.length_nil]);omega);(first|exact hN0|exact aS hN0|exact aS (aS hN0));exact rfl)
 | ((first|((with_reducible apply aj);iterate 4 exact rfl)|((with_reducible apply aa);exact rfl))<;>intro hg<;>(first|(exact absurd hg (by decide))|((try simp only [qz,ge_iff_le,List.cons.injEq,and_true] at hg);first|(exact absurd trivial hg)|(exfalso;omega)|(have hT:True:=hg;clear hT hg)|skip)))
 | (refine zs ?_)
 | fail
 )
    refine ⟨(j+1,min (ats[j].2+k) B,false,((FL++[(ax,ats[j].1 - k),(0,0)])++[(ax,ats[j].2)])++ns[j],ik (ik (ik N gv [(ax,ats[j].1 - k),(0,0)]) (gv+(([(ax,ats[j].1 - k),(0,0)]:List Nd).length:Int)) [(ax,ats[j].2)]) (gv+(([(ax,ats[j].1 - k),(0,0)]:List Nd).length:Int)+(([(ax,ats[j].2)]:List Nd).length:Int)) ns[j],gv+(([(ax,ats[j].1 - k),(0,0)]:List Nd).length:Int)+(([(ax,ats[j].2)]:List Nd).length:Int)+(ns[j].length:Int)),?_,?_,by refine ak rfl ?_ ?_<;>repeat (first|exact ai|exact ac|refine ae rfl rfl ?_|refine ab rfl rfl rfl ?_)⟩
    ·show ats.length - (j+1) < ats.length - j;omega
    ·have e1:gv+(([(ax,ats[j].1 - k),(0,0)]:List Nd).length:Int)=((FL++[(ax,ats[j].1 - k),(0,0)]).length:Nat):=by rw [List.length_append,Int.natCast_add,← hcnt]
     have e2:gv+(([(ax,ats[j].1 - k),(0,0)]:List Nd).length:Int)+(([(ax,ats[j].2)]:List Nd).length:Int)=(((FL++[(ax,ats[j].1 - k),(0,0)])++[(ax,ats[j].2)]).length:Nat):=by rw [List.length_append,Int.natCast_add,← e1]
     refine ⟨by show j+1≤_;omega,by show _=((List.length (_++_):Nat):Int);rw [List.length_append,Int.natCast_add,← e2],aS (aS (aS hN0)),eC e2 (eC e1 (eC hcnt hN)),.inl ⟨rfl,?_,g5,by show A0≤min _ _;omega,by show min _ _≤B;omega⟩⟩
     rw [← hf];simp only [List.append_assoc]
   ·rw [if_neg hb,if_neg hb] at hf
    repeat' (first
 | ((with_reducible apply bg);iterate 7 exact rfl)
 | ((with_reducible apply (cd (bc:=2) (bn:=1) (bv:=4) (l2:=[(ax,ats[j].1 - k),(0,0)])));(iterate 6 exact rfl);decide;decide;decide;((try simp only [List.length_cons,List.length_nil]);omega);((try simp only [List.length_cons,List.length_nil]);omega);(first|exact hN0|exact aS hN0|exact aS (aS hN0));exact rfl)
 | ((with_reducible apply (cd (bc:=2) (bn:=1) (bv:=4) (l2:=[(ax,ats[j].2)])));(iterate 6 exact rfl);decide;decide;decide;((try simp only [List.length_cons,List.length_nil]);omega);((try simp only [List.length_cons,List.length_nil]);omega);(first|exact hN0|exact aS hN0|exact aS (aS hN0));exact rfl)
 | ((with_reducible apply (cd (bc:=2) (bn:=1) (bv:=4) (l2:=ns[j])));(iterate 6 exact rfl);decide;decide;decide;((try simp only [List.length_cons,List.length_nil]);omega);((try simp only [List.length_cons,List.length_nil]);omega);(first|exact hN0|exact aS hN0|exact aS (aS hN0));exact rfl)
 | ((first|((with_reducible apply aj);iterate 4 exact rfl)|((with_reducible apply aa);exact rfl))<;>intro hg<;>(first|(exact absurd hg (by decide))|((try simp only [qz,ge_iff_le,List.cons.injEq,and_true] at hg);first|(exact absurd trivial hg)|(exfalso;omega)|(have hT:True:=hg;clear hT hg)|skip)))
 | (refine zs ?_)
 | fail
 )
    refine ⟨(j+1,e,true,(FL++[(ax,ats[j].1 - k),(0,0)])++ns[j],ik (ik N gv [(ax,ats[j].1 - k),(0,0)]) (gv+(([(ax,ats[j].1 - k),(0,0)]:List Nd).length:Int)) ns[j],gv+(([(ax,ats[j].1 - k),(0,0)]:List Nd).length:Int)+(ns[j].length:Int)),?_,?_,by refine ak rfl ?_ ?_<;>repeat (first|exact ai|exact ac|refine ae rfl rfl ?_|refine ab rfl rfl rfl ?_)⟩
    ·show ats.length - (j+1) < ats.length - j;omega
    ·have e1:gv+(([(ax,ats[j].1 - k),(0,0)]:List Nd).length:Int)=((FL++[(ax,ats[j].1 - k),(0,0)]).length:Nat):=by rw [List.length_append,Int.natCast_add,← hcnt]
     refine ⟨by show j+1≤_;omega,by show _=((List.length (_++_):Nat):Int);rw [List.length_append,Int.natCast_add,← e1],aS (aS hN0),eC e1 (eC hcnt hN),.inr ⟨rfl,?_,hdr (by omega)⟩⟩
     rw [← hf];simp only [List.append_assoc,List.nil_append,List.append_nil]
  ·rw [if_neg ha] at hf
   by_cases hb:ats[j].2 < B
   ·rw [if_pos hb,if_pos hb] at hf
    repeat' (first
 | ((with_reducible apply bg);iterate 7 exact rfl)
 | ((with_reducible apply (cd (bc:=2) (bn:=1) (bv:=4) (l2:=[(ax,ats[j].1 - k),(0,0)])));(iterate 6 exact rfl);decide;decide;decide;((try simp only [List.length_cons,List.length_nil]);omega);((try simp only [List.length_cons,List.length_nil]);omega);(first|exact hN0|exact aS hN0|exact aS (aS hN0));exact rfl)
 | ((with_reducible apply (cd (bc:=2) (bn:=1) (bv:=4) (l2:=[(ax,ats[j].2)])));(iterate 6 exact rfl);decide;decide;decide;((try simp only [List.length_cons,List.length_nil]);omega);((try simp only [List.length_cons,List.length_nil]);omega);(first|exact hN0|exact aS hN0|exact aS (aS hN0));exact rfl)
 | ((with_reducible apply (cd (bc:=2) (bn:=1) (bv:=4) (l2:=ns[j])));(iterate 6 exact rfl);decide;decide;decide;((try simp only [List.length_cons,List.length_nil]);omega);((try simp only [List.length_cons,List.length_nil]);omega);(first|exact hN0|exact aS hN0|exact aS (aS hN0));exact rfl)
 | ((first|((with_reducible apply aj);iterate 4 exact rfl)|((with_reducible apply aa);exact rfl))<;>intro hg<;>(first|(exact absurd hg (by decide))|((try simp only [qz,ge_iff_le,List.cons.injEq,and_true] at hg);first|(exact absurd trivial hg)|(exfalso;omega)|(have hT:True:=hg;clear hT hg)|skip)))
 | (refine zs ?_)
 | fail
 )
    refine ⟨(j+1,min (ats[j].2+k) B,false,(FL++[(ax,ats[j].2)])++ns[j],ik (ik N gv [(ax,ats[j].2)]) (gv+(([(ax,ats[j].2)]:List Nd).length:Int)) ns[j],gv+(([(ax,ats[j].2)]:List Nd).length:Int)+(ns[j].length:Int)),?_,?_,by refine ak rfl ?_ ?_<;>repeat (first|exact ai|exact ac|refine ae rfl rfl ?_|refine ab rfl rfl rfl ?_)⟩
    ·show ats.length - (j+1) < ats.length - j;omega
    ·have e1:gv+(([(ax,ats[j].2)]:List Nd).length:Int)=((FL++[(ax,ats[j].2)]).length:Nat):=by rw [List.length_append,Int.natCast_add,← hcnt]
     refine ⟨by show j+1≤_;omega,by show _=((List.length (_++_):Nat):Int);rw [List.length_append,Int.natCast_add,← e1],aS (aS hN0),eC e1 (eC hcnt hN),.inl ⟨rfl,?_,g5,by show A0≤min _ _;omega,by show min _ _≤B;omega⟩⟩
     rw [← hf];simp only [List.append_assoc,List.nil_append]
   ·rw [if_neg hb,if_neg hb] at hf
    repeat' (first
 | ((with_reducible apply bg);iterate 7 exact rfl)
 | ((with_reducible apply (cd (bc:=2) (bn:=1) (bv:=4) (l2:=[(ax,ats[j].1 - k),(0,0)])));(iterate 6 exact rfl);decide;decide;decide;((try simp only [List.length_cons,List.length_nil]);omega);((try simp only [List.length_cons,List.length_nil]);omega);(first|exact hN0|exact aS hN0|exact aS (aS hN0));exact rfl)
 | ((with_reducible apply (cd (bc:=2) (bn:=1) (bv:=4) (l2:=[(ax,ats[j].2)])));(iterate 6 exact rfl);decide;decide;decide;((try simp only [List.length_cons,List.length_nil]);omega);((try simp only [List.length_cons,List.length_nil]);omega);(first|exact hN0|exact aS hN0|exact aS (aS hN0));exact rfl)
 | ((with_reducible apply (cd (bc:=2) (bn:=1) (bv:=4) (l2:=ns[j])));(iterate 6 exact rfl);decide;decide;decide;((try simp only [List.length_cons,List.length_nil]);omega);((try simp only [List.length_cons,List.length_nil]);omega);(first|exact hN0|exact aS hN0|exact aS (aS hN0));exact rfl)
 | ((first|((with_reducible apply aj);iterate 4 exact rfl)|((with_reducible apply aa);exact rfl))<;>intro hg<;>(first|(exact absurd hg (by decide))|((try simp only [qz,ge_iff_le,List.cons.injEq,and_true] at hg);first|(exact absurd trivial hg)|(exfalso;omega)|(have hT:True:=hg;clear hT hg)|skip)))
 | (refine zs ?_)
 | fail
 )
    refine ⟨(j+1,e,true,FL++ns[j],ik N gv ns[j],gv+(ns[j].length:Int)),?_,?_,by refine ak rfl ?_ ?_<;>repeat (first|exact ai|exact ac|refine ae rfl rfl ?_|refine ab rfl rfl rfl ?_)⟩
    ·show ats.length - (j+1) < ats.length - j;omega
    ·refine ⟨by show j+1≤_;omega,by show _=((List.length (_++_):Nat):Int);rw [List.length_append,Int.natCast_add,← hcnt],aS hN0,eC hcnt hN,.inr ⟨rfl,?_,hdr (by omega)⟩⟩
     rw [← hf];simp only [List.nil_append,List.append_nil]
 ·have hzn:(ats.zip ns).drop j=[]:=List.drop_eq_nil_of_le (by rw [List.length_zip];omega)
  rcases hst with ⟨rfl,hf,ho,he0,he1⟩|⟨rfl,rfl,_⟩
  ·rw [hzn] at hf
   have hf:FL++[(0,0)]=full:=hf
   have hle:full.length=FL.length+1:=by rw [← hf,List.length_append];rfl
   have hl1:((([((0:Int),(0:Int))]:List Nd).length:Nat):Int)=1:=rfl
   by_cases h127:full.length≤127
   ·rw [if_pos h127,if_pos h127]
    have hNN:N++[(0,0)]=full:=by rw [hN (by omega)];exact hf
    have ha:ik N gv [(0,0)]=full:=by unfold ik;rw [if_pos (by show gv+1≤127;omega)];exact hNN
    repeat' (first
 | ((with_reducible apply bg);iterate 7 exact rfl)
 | ((with_reducible apply (cd (bc:=2) (bn:=1) (bv:=4) (l2:=[(0,0)])));(iterate 6 exact rfl);decide;decide;decide;((try simp only [List.length_cons,List.length_nil]);omega);((try simp only [List.length_cons,List.length_nil]);omega);exact hN0;exact rfl)
 | (((with_reducible apply aa);exact rfl)<;>intro hg<;>(first|(exact absurd hg (by decide))|((try simp only [qz,ge_iff_le,List.cons.injEq,and_true] at hg);first|(exact absurd trivial hg)|(exfalso;omega)|(have hT:True:=hg;clear hT hg)|skip)))
 | (refine zs ?_)
 | fail
 )
    rw [← ha]
    exact bJ (.cons (.tmp rfl (bx rfl (av EncL.len _))) (.cons (.tmp rfl ap) .nil))
   ·rw [if_neg h127,if_neg h127]
    repeat' (first
 | ((with_reducible apply bg);iterate 7 exact rfl)
 | ((with_reducible apply (cd (bc:=2) (bn:=1) (bv:=4) (l2:=[(0,0)])));(iterate 6 exact rfl);decide;decide;decide;((try simp only [List.length_cons,List.length_nil]);omega);((try simp only [List.length_cons,List.length_nil]);omega);exact hN0;exact rfl)
 | (((with_reducible apply aa);exact rfl)<;>intro hg<;>(first|(exact absurd hg (by decide))|((try simp only [qz,ge_iff_le,List.cons.injEq,and_true] at hg);first|(exact absurd trivial hg)|(exfalso;omega)|(have hT:True:=hg;clear hT hg)|skip)))
 | (refine zs ?_)
 | fail
 )
    all_goals exact bJ (.cons (.tmp rfl bP) (.cons (.tmp rfl ap) .nil))
  ·by_cases h127:FL.length≤127
   ·rw [if_pos h127,if_pos h127]
    have:=hN h127
    subst this
    repeat' (first
 | (((with_reducible apply aa);exact rfl)<;>intro hg<;>(first|(exact absurd hg (by decide))|((try simp only [qz,ge_iff_le,List.cons.injEq,and_true] at hg);first|(exact absurd trivial hg)|(exfalso;omega)|(have hT:True:=hg;clear hT hg)|skip)))
 | (refine zs ?_)
 | fail
 )
    all_goals exact bJ (.cons (.tmp rfl (bx rfl (av EncL.len _))) (.cons (.tmp rfl ap) .nil))
   ·rw [if_neg h127,if_neg h127]
    repeat' (first
 | (((with_reducible apply aa);exact rfl)<;>intro hg<;>(first|(exact absurd hg (by decide))|((try simp only [qz,ge_iff_le,List.cons.injEq,and_true] at hg);first|(exact absurd trivial hg)|(exfalso;omega)|(have hT:True:=hg;clear hT hg)|skip)))
 | (refine zs ?_)
 | fail
 )
    all_goals exact bJ (.cons (.tmp rfl bP) (.cons (.tmp rfl ap) .nil))
end Go.Proofs.YtdndfncpglfdeaaGreatDoor.Tp

namespace Go.Proofs.YtdndfncpglfdeaaGreatDoor.Tp
set_option linter.unusedVariables false
set_option linter.unusedSimpArgs false
open Go.RowKit Go.Proofs.YtdndfncpglfdeaaGreatDoor.Ev
open Go.Proofs.YtdndfncpglfdeaaGreatDoor.Cu (I LI LS gw ce)
open Go.Proofs.YtdndfncpglfdeaaGreatDoor.Ge (an aG)
variable {gl:List (Nat×List CV)}
theorem with_con (r:aG) (ax:Int) (s:an):bm Tryz.prog gl 148 [dx r,I ax,.agg [I s.1,I s.2]] (dx (bK r ax s)):=by
 unfold bK
 by_cases h:ax=2
 ·rw [if_pos h]
  refine ao Tryz.func148 rfl (by kernel_rfl) rfl ?_
  simp only [Tryz.ntmps148,Tryz.results148,am,ofC,aZ,List.map]
  repeat' (first
 | (((with_reducible apply aa);exact rfl)<;>intro hg<;>(first|(exact absurd hg (by decide))|((try simp only [qz,ge_iff_le,List.cons.injEq,and_true] at hg);first|(exact absurd trivial hg)|(exfalso;omega)|(have hT:True:=hg;clear hT hg)|skip)))
 | (refine zs ?_)
 | fail
 )
  all_goals exact cL (.cell_a inferInstance rfl rfl rfl rfl (al ap (al ap (al ap (al ap bj)))))
 ·rw [if_neg h]
  refine ao Tryz.func148 rfl (by kernel_rfl) rfl ?_
  simp only [Tryz.ntmps148,Tryz.results148,am,ofC,aZ,List.map]
  repeat' (first
 | (((with_reducible apply aa);exact rfl)<;>intro hg<;>(first|(exact absurd hg (by decide))|((try simp only [qz,ge_iff_le,List.cons.injEq,and_true] at hg);first|(exact absurd trivial hg)|(exfalso;omega)|(have hT:True:=hg;clear hT hg)|skip)))
 | (refine zs ?_)
 | fail
 )
  all_goals exact cL (.cell_a inferInstance rfl rfl rfl rfl (al ap (al ap (al ap (al ap bj)))))
theorem parts_con (r:aG) (n:Nd) (k:Int) (h:aQ (n.2+k)):bm Tryz.prog gl 117 [dx r,.agg [I n.1,I n.2],I k] (.tup [dx (aV r n.1 n.2),dx (iF k r n.1 n.2),dx (b8 k r n.1 n.2)]):=by
 have c0:=along_con (gl:=gl) r n.1
 have c1:=with_con (gl:=gl) r n.1 ((aD r n.1).1,n.2)
 have c2:=with_con (gl:=gl) r n.1 (n.2,min (n.2+k) (aD r n.1).2)
 have c3:=with_con (gl:=gl) r n.1 (min (n.2+k) (aD r n.1).2,(aD r n.1).2)
 unfold aV iF b8
 generalize bK r n.1 ((aD r n.1).1,n.2)=r1 at *
 generalize bK r n.1 (n.2,min (n.2+k) (aD r n.1).2)=r2 at *
 generalize bK r n.1 (min (n.2+k) (aD r n.1).2,(aD r n.1).2)=r3 at *
 generalize aD r n.1=s at *
 refine ao Tryz.func117 rfl (by kernel_rfl) rfl ?_
 simp only [Tryz.ntmps117,Tryz.results117,am,ofC,aZ,List.map]
 repeat' (first
 | ((with_reducible apply (ah (f:=62)));exact rfl;exact rfl;exact c0;exact rfl;exact rfl)
 | ((with_reducible apply (ah (f:=148)));exact rfl;exact rfl;exact c1;exact rfl;exact rfl)
 | ((with_reducible apply (ah (f:=148)));exact rfl;exact rfl;exact c2;exact rfl;exact rfl)
 | ((with_reducible apply (ah (f:=148)));exact rfl;exact rfl;exact c3;exact rfl;exact rfl)
 | (refine aw_drawV [2,3,4] [] [] 6 _ ?_ rfl rfl ?_;(decide +kernel);(simp only [pk,List.drop_succ_cons,List.drop_zero,List.map_cons,List.map_nil,List.cons_append,List.nil_append]))
 | ((with_reducible apply ig))
 | ((with_reducible apply gT))
 | ((with_reducible apply ds_nilV))
 | ((with_reducible apply d4_nil);(decide +kernel))
 | (first|(refine ay [0] (by decide +kernel) rfl ?_)|(refine ay [1] (by decide +kernel) rfl ?_)|(refine ay [2] (by decide +kernel) rfl ?_)|(refine ay [3] (by decide +kernel) rfl ?_)|(refine ay [4] (by decide +kernel) rfl ?_)|(refine ay [5] (by decide +kernel) rfl ?_)|(refine ay [0,1] (by decide +kernel) rfl ?_)|(refine ay [0,2] (by decide +kernel) rfl ?_)|(refine ay [0,3] (by decide +kernel) rfl ?_)|(refine ay [0,4] (by decide +kernel) rfl ?_)|(refine ay [0,5] (by decide +kernel) rfl ?_)|(refine ay [1,2] (by decide +kernel) rfl ?_)|(refine ay [1,3] (by decide +kernel) rfl ?_)|(refine ay [1,4] (by decide +kernel) rfl ?_)|(refine ay [1,5] (by decide +kernel) rfl ?_)|(refine ay [2,3] (by decide +kernel) rfl ?_)|(refine ay [2,4] (by decide +kernel) rfl ?_)|(refine ay [2,5] (by decide +kernel) rfl ?_)|(refine ay [3,4] (by decide +kernel) rfl ?_)|(refine ay [3,5] (by decide +kernel) rfl ?_)|(refine ay [4,5] (by decide +kernel) rfl ?_)|(refine ay [0,1,2] (by decide +kernel) rfl ?_)|(refine ay [0,1,3] (by decide +kernel) rfl ?_)|(refine ay [0,1,4] (by decide +kernel) rfl ?_)|(refine ay [0,1,5] (by decide +kernel) rfl ?_)|(refine ay [0,2,3] (by decide +kernel) rfl ?_)|(refine ay [0,2,4] (by decide +kernel) rfl ?_)|(refine ay [0,2,5] (by decide +kernel) rfl ?_)|(refine ay [0,3,4] (by decide +kernel) rfl ?_)|(refine ay [0,3,5] (by decide +kernel) rfl ?_)|(refine ay [0,4,5] (by decide +kernel) rfl ?_)|(refine ay [1,2,3] (by decide +kernel) rfl ?_)|(refine ay [1,2,4] (by decide +kernel) rfl ?_)|(refine ay [1,2,5] (by decide +kernel) rfl ?_)|(refine ay [1,3,4] (by decide +kernel) rfl ?_)|(refine ay [1,3,5] (by decide +kernel) rfl ?_)|(refine ay [1,4,5] (by decide +kernel) rfl ?_)|(refine ay [2,3,4] (by decide +kernel) rfl ?_)|(refine ay [2,3,5] (by decide +kernel) rfl ?_)|(refine ay [2,4,5] (by decide +kernel) rfl ?_)|(refine ay [3,4,5] (by decide +kernel) rfl ?_))
 | ((with_reducible refine List.forall_mem_cons.2 ⟨?_,?_⟩))
 | ((with_reducible exact d4_none))
 | ((with_reducible apply d4_a);exact rfl;exact inferInstance;exact rfl)
 | ((with_reducible apply d4_pa);exact rfl;exact inferInstance;iterate 8 exact rfl)
 | ((with_reducible apply d4_p);exact rfl;exact inferInstance;iterate 8 exact rfl)
 | ((with_reducible apply d4_q);exact rfl;(simp only [pk,List.drop_succ_cons,List.drop_zero]))
 | (refine zs ?_)
 | fail
 )
 all_goals exact bJ (.cons (.cell_a inferInstance rfl rfl rfl rfl (al ap (al ap (al ap (al ap bj))))) (.cons (.cell_a inferInstance rfl rfl rfl rfl (al ap (al ap (al ap (al ap bj))))) (.cons (.cell_a inferInstance rfl rfl rfl rfl (al ap (al ap (al ap (al ap bj))))) .nil)))
theorem any_con (r:aG) (p:Int) (h:0≤p∧p < 16):bm Tryz.prog gl 81 [dx r,I p] (I 0):=by
 refine ao Tryz.func81 rfl (by kernel_rfl) rfl ?_
 simp only [Tryz.ntmps81,Tryz.results81,am,ofC,aZ,List.map]
 repeat' (first
 | ((first|((with_reducible apply aj);iterate 4 exact rfl)|((with_reducible apply aa);exact rfl))<;>intro hg<;>(first|(exact absurd hg (by decide))|((try simp only [qz,ge_iff_le,List.cons.injEq,and_true] at hg);first|(exact absurd trivial hg)|(exfalso;omega)|(have hT:True:=hg;clear hT hg)|skip)))
 | (refine zs ?_)
 | fail
 )
 all_goals exact aB rfl rfl
abbrev plcC (r:aG) (lv:Int):CV:=.agg [I r.1.1,I r.1.2,I r.2.1,I r.2.2,I lv]
theorem node_leaf (n:Nd) (r:aG) (lv:Int) (hn:n.1=0∧n.2=0∨n.1=1) (hl:lv≤64):bm Tryz.prog gl 123 [.agg [I n.1,I n.2],plcC r lv] (I 0):=by
 have c0:=cX (gl:=gl) n.1
 obtain ⟨k,a⟩:=n
 dsimp only at *
 rcases hn with ⟨rfl,rfl⟩|rfl
 ·rw [show (decide ((0:Int)=2) || decide ((0:Int)=3))=false from rfl] at c0
  refine ao Tryz.func123 rfl (by kernel_rfl) rfl ?_
  simp only [Tryz.ntmps123,Tryz.results123,am,ofC,aZ,List.map]
  repeat' (first
 | ((with_reducible apply (ah (f:=59)));exact rfl;exact rfl;exact c0;exact rfl;exact rfl)
 | ((first|((with_reducible apply aj);iterate 4 exact rfl)|((with_reducible apply aa);exact rfl))<;>intro hg<;>(first|(exact absurd hg (by decide))|((try simp only [qz,ge_iff_le,List.cons.injEq,and_true] at hg);first|(exact absurd trivial hg)|(exfalso;omega)|(have hT:True:=hg;clear hT hg)|skip)))
 | (refine zs ?_)
 | fail
 )
  all_goals exact aB rfl rfl
 ·rw [show (decide ((1:Int)=2) || decide ((1:Int)=3))=false from rfl] at c0
  refine ao Tryz.func123 rfl (by kernel_rfl) rfl ?_
  simp only [Tryz.ntmps123,Tryz.results123,am,ofC,aZ,List.map]
  repeat' (first
 | ((with_reducible apply (ah (f:=59)));exact rfl;exact rfl;exact c0;exact rfl;exact rfl)
 | ((first|((with_reducible apply aj);iterate 4 exact rfl)|((with_reducible apply aa);exact rfl))<;>intro hg<;>(first|(exact absurd hg (by decide))|((try simp only [qz,ge_iff_le,List.cons.injEq,and_true] at hg);first|(exact absurd trivial hg)|(exfalso;omega)|(have hT:True:=hg;clear hT hg)|skip)))
 | (refine zs ?_)
 | fail
 )
  all_goals exact aB rfl rfl
theorem node_rip (n:Nd) (r:aG) (lv:Int) (hn:n.1=2∨n.1=3) (hl:lv≤64) (h1:(aD r n.1).1 < n.2) (h2:n.2 < (aD r n.1).2):bm Tryz.prog gl 123 [.agg [I n.1,I n.2],plcC r lv] (I 0):=by
 have c0:=cX (gl:=gl) n.1
 have c1:=along_con (gl:=gl) r n.1
 rw [show (decide (n.1=2) || decide (n.1=3))=true by rcases hn with h|h<;>simp [h]] at c0
 generalize aD r n.1=s at *
 obtain ⟨k,a⟩:=n
 dsimp only at *
 have hk:2≤k∧k≤3:=by omega
 refine ao Tryz.func123 rfl (by kernel_rfl) rfl ?_
 simp only [Tryz.ntmps123,Tryz.results123,am,ofC,aZ,List.map]
 repeat' (first
 | ((with_reducible apply (ah (f:=59)));exact rfl;exact rfl;exact c0;exact rfl;exact rfl)
 | ((with_reducible apply (ah (f:=62)));exact rfl;exact rfl;exact c1;exact rfl;exact rfl)
 | ((first|((with_reducible apply aj);iterate 4 exact rfl)|((with_reducible apply aa);exact rfl))<;>intro hg<;>(first|(exact absurd hg (by decide))|((try simp only [qz,ge_iff_le,List.cons.injEq,and_true] at hg);first|(exact absurd trivial hg)|(exfalso;omega)|(have hT:True:=hg;clear hT hg)|skip)))
 | (refine zs ?_)
 | fail
 )
 all_goals exact aB rfl rfl
end Go.Proofs.YtdndfncpglfdeaaGreatDoor.Tp
