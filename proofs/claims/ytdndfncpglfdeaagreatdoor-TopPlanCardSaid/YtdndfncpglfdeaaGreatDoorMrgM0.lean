/- MC MA: texts laid together. -/
import Derived.Test.YtdndfncpglfdeaaGreatDoorMrgI0
import Derived.Test.YtdndfncpglfdeaaGreatDoorMrgG0
import Derived.Test.YtdndfncpglfdeaaGreatDoorMrgE4
import Derived.Test.YtdndfncpglfdeaaGreatDoorMrgS
set_option maxRecDepth 100000
set_option maxHeartbeats 64000000

namespace Go.Proofs.YtdndfncpglfdeaaGreatDoor.Ge
set_option linter.unusedVariables false
set_option linter.unusedSimpArgs false
open Go.RowKit Go.Proofs.YtdndfncpglfdeaaGreatDoor.Ev
variable {gl:List (Nat×List CV)}
structure Dfc where
 kind:Int
 x:an
 y:an
 z:an
def dfC (d:Dfc):List CV:=[I d.kind,I d.x.1,I d.x.2,I d.y.1,I d.y.2,I d.z.1,I d.z.2]
instance:EncL dfC 7:=⟨fun _=>rfl,by decide,fun _=>rfl⟩
abbrev LD (l:List Dfc):CV:=.lst 7 (l.flatMap dfC)
def inB (s:an) (lo hi:Int):Bool:=decide (lo≤s.1∧lo≤s.2∧s.1≤hi∧s.2≤hi)
def dfEmpty (d:Dfc):Bool:=aO d.x || aO d.y || aO d.z
def dfRange (d:Dfc):Bool:=inB d.x (-600) 600 && inB d.y (-600) 600 && inB d.z 0 20000
def dfChk (d:Dfc):Int:=if d.kind < 1∨6 < d.kind then 10 else if dfEmpty d=true then 19 else if dfRange d=true then 0 else 9
theorem ff6:∀ b1 b2 b3 c1 c2 c3:Bool,b1=true∨(b1=false∧b2=true)∨(b1=false∧b2=false∧b3=true)∨(b1=false∧b2=false∧b3=false∧c1=false)∨(b1=false∧b2=false∧b3=false∧c1=true∧c2=false)∨(b1=false∧b2=false∧b3=false∧c1=true∧c2=true∧c3=false)∨(b1=false∧b2=false∧b3=false∧c1=true∧c2=true∧c3=true):=by
 intro b1 b2 b3 c1 c2 c3
 cases b1<;>cases b2<;>cases b3<;>cases c1<;>cases c2<;>cases c3<;>simp
theorem dO (a b:Int):bm Tryz.prog gl 133 [.agg [I a,I b]] (.v (.bool (aO (a,b)))):=by
 refine ao Tryz.func133 rfl (by kernel_rfl) rfl ?_
 simp only [Tryz.ntmps133,Tryz.results133,am,ofC,aZ,List.map]
 repeat' (first
 | (refine zs ?_)
 | fail
 )
 exact aK rfl rfl
theorem dInside_con (a b lo hi:Int):bm Tryz.prog gl 134 [.agg [I a,I b],I lo,I hi] (.v (.bool (inB (a,b) lo hi))):=by
 refine ao Tryz.func134 rfl (by kernel_rfl) rfl ?_
 simp only [Tryz.ntmps134,Tryz.results134,am,ofC,aZ,List.map]
 repeat' (first
 | (((with_reducible apply aj);iterate 4 exact rfl)<;>intro hg<;>(first|(exact absurd hg (by decide))|((try simp only [qz,ge_iff_le,List.cons.injEq,and_true] at hg);first|(exact absurd trivial hg)|(exfalso;omega)|(have hT:True:=hg;clear hT hg)|skip)))
 | (refine zs ?_)
 | fail
 )
 all_goals first
  | exact aK rfl (by unfold inB;rw [eq_comm,decide_eq_false_iff_not];dsimp only;omega)
  | exact aK rfl (decide_eq_decide.2 (by dsimp only;omega))
theorem dcheck1_con (d:Dfc):bm Tryz.prog gl 95 [.agg [I d.kind,I d.x.1,I d.x.2,I d.y.1,I d.y.2,I d.z.1,I d.z.2]] (I (dfChk d)):=by
 obtain ⟨k,⟨xa,xb⟩,⟨ya,yb⟩,⟨za,zb⟩⟩:=d
 have e1:=dO (gl:=gl) xa xb
 have e2:=dO (gl:=gl) ya yb
 have e3:=dO (gl:=gl) za zb
 have i1:=dInside_con (gl:=gl) xa xb (-600) 600
 have i2:=dInside_con (gl:=gl) ya yb (-600) 600
 have i3:=dInside_con (gl:=gl) za zb 0 20000
 unfold dfChk dfEmpty dfRange
 dsimp only
 refine ao Tryz.func95 rfl (by kernel_rfl) rfl ?_
 simp only [Tryz.ntmps95,Tryz.results95,am,ofC,aZ,List.map]
 by_cases hk:k < 1∨6 < k
 ·rw [if_pos hk]
  repeat' (first
 | ((first|((with_reducible apply aj);iterate 4 exact rfl)|((with_reducible apply aa);exact rfl))<;>intro hg<;>(first|(exact absurd hg (by decide))|((try simp only [qz,ge_iff_le,List.cons.injEq,and_true] at hg);first|(exact absurd trivial hg)|(exfalso;omega)|(have hT:True:=hg;clear hT hg)|skip)))
 | (refine zs ?_)
 | fail
 )
  all_goals exact aB rfl rfl
 rw [if_neg hk]
 revert e1 e2 e3 i1 i2 i3
 generalize aO (xa,xb)=b1
 generalize aO (ya,yb)=b2
 generalize aO (za,zb)=b3
 generalize inB (xa,xb) (-600) 600=c1
 generalize inB (ya,yb) (-600) 600=c2
 generalize inB (za,zb) 0 20000=c3
 intro e1 e2 e3 i1 i2 i3
 rcases ff6 b1 b2 b3 c1 c2 c3 with rfl|⟨rfl,rfl⟩|⟨rfl,rfl,rfl⟩|⟨rfl,rfl,rfl,rfl⟩|⟨rfl,rfl,rfl,rfl,rfl⟩|⟨rfl,rfl,rfl,rfl,rfl,rfl⟩|⟨rfl,rfl,rfl,rfl,rfl,rfl⟩
 all_goals try simp only [Bool.true_or,Bool.or_true,Bool.false_or,Bool.or_false,Bool.false_and,Bool.and_false,Bool.true_and,Bool.and_true]
 all_goals
  repeat' (first
 | ((with_reducible apply ah);exact rfl;exact rfl;(first|exact e1|exact e2|exact e3|exact i1|exact i2|exact i3);exact rfl;exact rfl)
 | ((first|((with_reducible apply aj);iterate 4 exact rfl)|((with_reducible apply aa);exact rfl))<;>intro hg<;>(first|(exact absurd hg (by decide))|((try simp only [qz,ge_iff_le,List.cons.injEq,and_true] at hg);first|(exact absurd trivial hg)|(exfalso;omega)|(have hT:True:=hg;clear hT hg)|skip)))
 | (refine zs ?_)
 | fail
 )
  all_goals exact aB rfl rfl
def defGo:List Dfc→Int
 | []=>0
 | d::l=>if dfChk d=0 then defGo l else dfChk d
def cI (l:List Dfc):Int:=if 64 < l.length then 4 else defGo l
theorem dg_bad {l:List Dfc} {j:Nat} (hj:j < l.length) (h:¬ dfChk l[j]=0):dfChk l[j]=defGo (l.drop j):=by
 rw [bk l j hj];unfold defGo;rw [if_neg h]
theorem dg_ok {l:List Dfc} {j:Nat} (hj:j < l.length) (h:dfChk l[j]=0):defGo (l.drop j)=defGo (l.drop (j+1)):=by
 rw [bk l j hj];conv=>lhs;unfold defGo
 rw [if_pos h]
theorem def_64 {l:List Dfc} (h:64 < l.length):4=cI l:=by unfold cI;rw [if_pos h]
theorem def_go {l:List Dfc} (h:¬ 64 < l.length):cI l=defGo (l.drop 0):=by unfold cI;rw [if_neg h];rfl
theorem iP (l:List Dfc) (hn:l.length≤maxLen):bm Tryz.prog gl 49 [LD l] (I (cI l)):=by
 refine ao Tryz.func49 rfl (by kernel_rfl) rfl ?_
 simp only [Tryz.ntmps49,Tryz.results49,am,ofC,aZ,List.map]
 by_cases h24:64 < l.length
 ·skip
  repeat' (first
 | (((with_reducible apply aa);exact rfl)<;>intro hg<;>(first|(exact absurd hg (by decide))|((try simp only [qz,ge_iff_le,List.cons.injEq,and_true] at hg);first|(exact absurd trivial hg)|(exfalso;omega)|(have hT:True:=hg;clear hT hg)|skip)))
 | (refine zs ?_)
 | fail
 )
  exact aB rfl (def_64 h24)
 rw [def_go h24]
 repeat' (first
 | (((with_reducible apply aa);exact rfl)<;>intro hg<;>(first|(exact absurd hg (by decide))|((try simp only [qz,ge_iff_le,List.cons.injEq,and_true] at hg);first|(exact absurd trivial hg)|(exfalso;omega)|(have hT:True:=hg;clear hT hg)|skip)))
 | (refine zs ?_)
 | fail
 )
 refine au (G:=Nat) (fun (j:Nat)=>j≤l.length∧defGo (l.drop 0)=defGo (l.drop j)) (fun (j:Nat)=>l.length - j) (fun (j:Nat)=>[(9,.c (LD l)),(10,A l.length),(11,A j)]) (fun (j:Nat)=>[]) 0 0 ?_ (by refine ak rfl ?_ ?_<;>repeat (first|exact ai|exact ac|refine ae rfl rfl ?_|refine ab rfl rfl rfl ?_)) rfl ?_
 ·exact ⟨Nat.zero_le _,rfl⟩
 rintro j hI
 try dsimp only at hI
 try dsimp only
 obtain ⟨hj,hgo⟩:=hI
 by_cases hjl:j < l.length
 ·have hc:=dcheck1_con (gl:=gl) l[j]
  repeat' (first
 | ((with_reducible apply ah);exact rfl;exact rfl;exact hc;exact rfl;exact rfl)
 | (((with_reducible apply aa);exact rfl)<;>intro hg<;>(first|(exact absurd hg (by decide))|((try simp only [qz,ge_iff_le,List.cons.injEq,and_true] at hg);first|(exact absurd trivial hg)|(exfalso;omega)|(have hT:True:=hg;clear hT hg)|skip)))
 | (refine zs ?_)
 | fail
 )
  all_goals first
   | exact aB rfl ((dg_bad hjl hg).trans hgo.symm)
   | skip
  have hs:dfChk l[j]=0:=by assumption
  refine ⟨j+1,?_,?_,by refine ak rfl ?_ ?_<;>repeat (first|exact ai|exact ac|refine ae rfl rfl ?_|refine ab rfl rfl rfl ?_)⟩
  ·show _ - (j+1) < _ - j;omega
  ·exact ⟨by show j+1≤_;omega,hgo.trans (dg_ok hjl hs)⟩
 ·skip
  repeat' (first
 | (((with_reducible apply aa);exact rfl)<;>intro hg<;>(first|(exact absurd hg (by decide))|((try simp only [qz,ge_iff_le,List.cons.injEq,and_true] at hg);first|(exact absurd trivial hg)|(exfalso;omega)|(have hT:True:=hg;clear hT hg)|skip)))
 | (refine zs ?_)
 | fail
 )
  exact aB rfl (by rw [hgo,List.drop_eq_nil_of_le (by omega)];rfl)
def cntN (l:List Dfc) (k:Int) (j:Nat):Int:=((l.take j).countP (fun d=>decide (d.kind=k)):Nat)
abbrev gv (l:List Dfc) (k:Int):Int:=cntN l k l.length
end Go.Proofs.YtdndfncpglfdeaaGreatDoor.Ge

namespace Go.Proofs.YtdndfncpglfdeaaGreatDoor.Ge
set_option linter.unusedVariables false
set_option linter.unusedSimpArgs false
open Go.RowKit Go.Proofs.YtdndfncpglfdeaaGreatDoor.Ev
variable {gl:List (Nat×List CV)}
instance:StrTy Tryz.prog 9:=⟨Tryz.underlying9⟩
abbrev B8 (n:Int):CV:=.v (.int .u8 n)
abbrev STR (s:ByteArray):CV:=.v (.string s)
def gR (n:Int):Bool:=decide (97≤n∧n≤122)
def digB (n:Int):Bool:=decide (48≤n∧n≤57)
def restB (n:Int):Bool:=gR n || digB n || decide (n=95)
theorem isSmall_con (n:Int):bm Tryz.prog gl 135 [B8 n] (.v (.bool (gR n))):=by
 refine ao Tryz.func135 rfl (by kernel_rfl) rfl ?_
 simp only [Tryz.ntmps135,Tryz.results135,am,ofC,aZ,List.map]
 repeat' (first
 | (((with_reducible apply aj);iterate 4 exact rfl)<;>intro hg<;>(first|(exact absurd hg (by decide))|((try simp only [qz,ge_iff_le,List.cons.injEq,and_true] at hg);first|(exact absurd trivial hg)|(exfalso;omega)|(have hT:True:=hg;clear hT hg)|skip)))
 | (refine zs ?_)
 | fail
 )
 all_goals first
  | exact aK rfl (by unfold gR;rw [eq_comm,decide_eq_false_iff_not];omega)
  | exact aK rfl (decide_eq_decide.2 (by omega))
theorem isDigit_con (n:Int):bm Tryz.prog gl 136 [B8 n] (.v (.bool (digB n))):=by
 refine ao Tryz.func136 rfl (by kernel_rfl) rfl ?_
 simp only [Tryz.ntmps136,Tryz.results136,am,ofC,aZ,List.map]
 repeat' (first
 | (((with_reducible apply aj);iterate 4 exact rfl)<;>intro hg<;>(first|(exact absurd hg (by decide))|((try simp only [qz,ge_iff_le,List.cons.injEq,and_true] at hg);first|(exact absurd trivial hg)|(exfalso;omega)|(have hT:True:=hg;clear hT hg)|skip)))
 | (refine zs ?_)
 | fail
 )
 all_goals first
  | exact aK rfl (by unfold digB;rw [eq_comm,decide_eq_false_iff_not];omega)
  | exact aK rfl (decide_eq_decide.2 (by omega))
theorem rdigit_con (n:Int):bm Tryz.prog gl 118 [B8 n] (.v (.bool (digB n))):=by
 refine ao Tryz.func118 rfl (by kernel_rfl) rfl ?_
 simp only [Tryz.ntmps118,Tryz.results118,am,ofC,aZ,List.map]
 repeat' (first
 | (((with_reducible apply aj);iterate 4 exact rfl)<;>intro hg<;>(first|(exact absurd hg (by decide))|((try simp only [qz,ge_iff_le,List.cons.injEq,and_true] at hg);first|(exact absurd trivial hg)|(exfalso;omega)|(have hT:True:=hg;clear hT hg)|skip)))
 | (refine zs ?_)
 | fail
 )
 all_goals first
  | exact aK rfl (by unfold digB;rw [eq_comm,decide_eq_false_iff_not];omega)
  | exact aK rfl (decide_eq_decide.2 (by omega))
structure NameOk (s:ByteArray):Prop where
 lo:1≤s.size
 hi:s.size≤16
 first:gR (bt s 0)=true
 rest:∀ i,1≤i→i < s.size→restB (bt s i)=true
noncomputable def eT (s:ByteArray):Bool:=open Classical in decide (NameOk s)
open Classical in
theorem name_yes {s:ByteArray} (h:NameOk s):eT s=true:=by unfold eT;exact decide_eq_true h
open Classical in
theorem name_no {s:ByteArray} (h:¬ NameOk s):false=eT s:=by unfold eT;exact (decide_eq_false h).symm
theorem isName_con (s:ByteArray):bm Tryz.prog gl 96 [STR s] (.v (.bool (eT s))):=by
 have h0:=isSmall_con (gl:=gl) (bt s 0)
 refine ao Tryz.func96 rfl (by kernel_rfl) rfl ?_
 simp only [Tryz.ntmps96,Tryz.results96,am,ofC,aZ,List.map]
 by_cases hl:1≤s.size∧s.size≤16
 rotate_left
 ·skip
  repeat' (first
 | ((with_reducible apply dm);exact rfl;exact rfl)
 | ((first|((with_reducible apply aj);iterate 4 exact rfl)|((with_reducible apply aa);exact rfl))<;>intro hg<;>(first|(exact absurd hg (by decide))|((try simp only [qz,ge_iff_le,List.cons.injEq,and_true] at hg);first|(exact absurd trivial hg)|(exfalso;omega)|(have hT:True:=hg;clear hT hg)|skip)))
 | (refine zs ?_)
 | fail
 )
  all_goals exact aK rfl (name_no (fun h=>hl ⟨h.lo,h.hi⟩))
 obtain ⟨l1,l2⟩:=hl
 cases hs:gR (bt s 0) with
 | false =>
  rw [hs] at h0
  repeat' (first
 | ((with_reducible apply dm);exact rfl;exact rfl)
 | ((with_reducible apply (fU 0));(iterate 3 exact rfl);exact (by omega);exact rfl)
 | ((with_reducible apply ah);exact rfl;exact rfl;exact h0;exact rfl;exact rfl)
 | ((first|((with_reducible apply aj);iterate 4 exact rfl)|((with_reducible apply aa);exact rfl))<;>intro hg<;>(first|(exact absurd hg (by decide))|((try simp only [qz,ge_iff_le,List.cons.injEq,and_true] at hg);first|(exact absurd trivial hg)|(exfalso;omega)|(have hT:True:=hg;clear hT hg)|skip)))
 | (refine zs ?_)
 | fail
 )
  all_goals exact aK rfl (name_no (fun h=>by rw [h.first] at hs;cases hs))
 | true =>
 rw [hs] at h0
 repeat' (first
 | ((with_reducible apply dm);exact rfl;exact rfl)
 | ((with_reducible apply (fU 0));(iterate 3 exact rfl);exact (by omega);exact rfl)
 | ((with_reducible apply ah);exact rfl;exact rfl;exact h0;exact rfl;exact rfl)
 | ((first|((with_reducible apply aj);iterate 4 exact rfl)|((with_reducible apply aa);exact rfl))<;>intro hg<;>(first|(exact absurd hg (by decide))|((try simp only [qz,ge_iff_le,List.cons.injEq,and_true] at hg);first|(exact absurd trivial hg)|(exfalso;omega)|(have hT:True:=hg;clear hT hg)|skip)))
 | (refine zs ?_)
 | fail
 )
 refine au (G:=Nat) (fun (j:Nat)=>1≤j∧j≤s.size∧∀ i,1≤i→i < j→restB (bt s i)=true) (fun (j:Nat)=>s.size - j) (fun (j:Nat)=>[(0,.c (STR s)),(3,A j)]) (fun (j:Nat)=>[]) 0 1 ?_ (by refine ak rfl ?_ ?_<;>repeat (first|exact ai|exact ac|refine ae rfl rfl ?_|refine ab rfl rfl rfl ?_)) rfl ?_
 ·exact ⟨Nat.le_refl _,l1,fun i a b=>by have:i < 1:=b;omega⟩
 rintro j hI
 try dsimp only at hI
 try dsimp only
 obtain ⟨hj1,hj2,hall⟩:=hI
 by_cases hjl:j < s.size
 ·have h1:=isSmall_con (gl:=gl) (bt s j)
  have h2:=isDigit_con (gl:=gl) (bt s j)
  cases hr:restB (bt s j) with
  | true =>
   have hr2:=hr
   unfold restB at hr2
   cases e1:gR (bt s j)<;>cases e2:digB (bt s j)<;>rw [e1] at h1<;>rw [e2] at h2<;>rw [e1,e2] at hr2<;>simp at hr2
   all_goals
    repeat' (first
 | ((with_reducible apply dm);exact rfl;exact rfl)
 | ((with_reducible apply (fU j));(iterate 3 exact rfl);exact hjl;exact rfl)
 | ((with_reducible apply ah);exact rfl;exact rfl;(first|exact h1|exact h2);exact rfl;exact rfl)
 | ((first|((with_reducible apply aj);iterate 4 exact rfl)|((with_reducible apply aa);exact rfl))<;>intro hg<;>(first|(exact absurd hg (by decide))|((try simp only [qz,ge_iff_le,List.cons.injEq,and_true] at hg);first|(exact absurd trivial hg)|(exfalso;omega)|(have hT:True:=hg;clear hT hg)|skip)))
 | (refine zs ?_)
 | fail
 )
    all_goals
     refine ⟨j+1,?_,?_,by refine ak rfl ?_ ?_<;>repeat (first|exact ai|exact ac|refine ae rfl rfl ?_|refine ab rfl rfl rfl ?_)⟩
     ·show s.size - (j+1) < s.size - j;omega
     ·refine ⟨by show 1≤j+1;omega,by show j+1≤s.size;omega,fun i a b=>?_⟩
      by_cases he:i=j
      ·subst he;exact hr
      ·exact hall i a (by have:i < j+1:=b;omega)
  | false =>
   have hr2:=hr
   unfold restB at hr2
   simp only [Bool.or_eq_false_iff,decide_eq_false_iff_not] at hr2
   obtain ⟨⟨e1,e2⟩,e3⟩:=hr2
   rw [e1] at h1
   rw [e2] at h2
   repeat' (first
 | ((with_reducible apply dm);exact rfl;exact rfl)
 | ((with_reducible apply (fU j));(iterate 3 exact rfl);exact hjl;exact rfl)
 | ((with_reducible apply ah);exact rfl;exact rfl;(first|exact h1|exact h2);exact rfl;exact rfl)
 | ((first|((with_reducible apply aj);iterate 4 exact rfl)|((with_reducible apply aa);exact rfl))<;>intro hg<;>(first|(exact absurd hg (by decide))|((try simp only [qz,ge_iff_le,List.cons.injEq,and_true] at hg);first|(exact absurd trivial hg)|(exfalso;omega)|(have hT:True:=hg;clear hT hg)|skip)))
 | (refine zs ?_)
 | fail
 )
   all_goals exact aK rfl (name_no (fun h=>by rw [h.rest j hj1 hjl] at hr;cases hr))
 ·obtain rfl:j=s.size:=by omega
  repeat' (first
 | ((with_reducible apply dm);exact rfl;exact rfl)
 | (((with_reducible apply aa);exact rfl)<;>intro hg<;>(first|(exact absurd hg (by decide))|((try simp only [qz,ge_iff_le,List.cons.injEq,and_true] at hg);first|(exact absurd trivial hg)|(exfalso;omega)|(have hT:True:=hg;clear hT hg)|skip)))
 | (refine zs ?_)
 | fail
 )
  exact aK rfl (name_yes ⟨l1,l2,hs,hall⟩).symm
theorem risName_con (s:ByteArray):bm Tryz.prog gl 67 [STR s] (.v (.bool (eT s))):=by
 refine ao Tryz.func67 rfl (by kernel_rfl) rfl ?_
 simp only [Tryz.ntmps67,Tryz.results67,am,ofC,aZ,List.map]
 by_cases hl:1≤s.size∧s.size≤16
 rotate_left
 ·skip
  repeat' (first
 | ((with_reducible apply dm);exact rfl;exact rfl)
 | ((first|((with_reducible apply aj);iterate 4 exact rfl)|((with_reducible apply aa);exact rfl))<;>intro hg<;>(first|(exact absurd hg (by decide))|((try simp only [qz,ge_iff_le,List.cons.injEq,and_true] at hg);first|(exact absurd trivial hg)|(exfalso;omega)|(have hT:True:=hg;clear hT hg)|skip)))
 | (refine zs ?_)
 | fail
 )
  all_goals exact aK rfl (name_no (fun h=>hl ⟨h.lo,h.hi⟩))
 obtain ⟨l1,l2⟩:=hl
 repeat' (first
 | ((with_reducible apply dm);exact rfl;exact rfl)
 | ((first|((with_reducible apply aj);iterate 4 exact rfl)|((with_reducible apply aa);exact rfl))<;>intro hg<;>(first|(exact absurd hg (by decide))|((try simp only [qz,ge_iff_le,List.cons.injEq,and_true] at hg);first|(exact absurd trivial hg)|(exfalso;omega)|(have hT:True:=hg;clear hT hg)|skip)))
 | (refine zs ?_)
 | fail
 )
 refine au (G:=Nat) (fun (j:Nat)=>j≤s.size∧(0 < j→gR (bt s 0)=true)∧∀ i,1≤i→i < j→restB (bt s i)=true) (fun (j:Nat)=>s.size - j) (fun (j:Nat)=>[(0,.c (STR s)),(3,A j)]) (fun (j:Nat)=>[]) 0 0 ?_ (by refine ak rfl ?_ ?_<;>repeat (first|exact ai|exact ac|refine ae rfl rfl ?_|refine ab rfl rfl rfl ?_)) rfl ?_
 ·exact ⟨Nat.zero_le _,fun h=>absurd h (Nat.lt_irrefl _),fun i a b=>absurd b (Nat.not_lt_zero _)⟩
 rintro j hI
 try dsimp only at hI
 try dsimp only
 obtain ⟨hj2,hfst,hall⟩:=hI
 by_cases hjl:j < s.size
 ·have h2:=rdigit_con (gl:=gl) (bt s j)
  by_cases hgood:(97≤bt s j∧bt s j≤122)∨(¬ j=0∧(digB (bt s j)=true∨bt s j=95))
  ·have hnext:(0 < j+1→gR (bt s 0)=true)∧∀ i,1≤i→i < j+1→restB (bt s i)=true:=by
    refine ⟨fun _=>?_,fun i a b=>?_⟩
    ·by_cases hj0:j=0
     ·subst hj0
      rcases hgood with h|h
      ·exact decide_eq_true h
      ·exact absurd rfl h.1
     ·exact hfst (by omega)
    ·by_cases he:i=j
     ·subst he
      unfold restB gR
      rcases hgood with h|⟨_,h|h⟩
      ·rw [decide_eq_true h];rfl
      ·rw [h];simp
      ·rw [decide_eq_true h];simp
     ·exact hall i a (by omega)
   cases e2:digB (bt s j)<;>rw [e2] at h2<;>rw [e2] at hgood<;>simp only [Bool.false_eq_true,false_or,true_or,and_true] at hgood
   all_goals
    repeat' (first
 | ((with_reducible apply dm);exact rfl;exact rfl)
 | ((with_reducible apply (fU j));(iterate 3 exact rfl);exact hjl;exact rfl)
 | ((with_reducible apply ah);exact rfl;exact rfl;exact h2;exact rfl;exact rfl)
 | ((first|((with_reducible apply aj);iterate 4 exact rfl)|((with_reducible apply aa);exact rfl))<;>intro hg<;>(first|(exact absurd hg (by decide))|((try simp only [qz,ge_iff_le,List.cons.injEq,and_true] at hg);first|(exact absurd trivial hg)|(exfalso;omega)|(have hT:True:=hg;clear hT hg)|skip)))
 | (refine zs ?_)
 | fail
 )
    all_goals
     refine ⟨j+1,?_,?_,by refine ak rfl ?_ ?_<;>repeat (first|exact ai|exact ac|refine ae rfl rfl ?_|refine ab rfl rfl rfl ?_)⟩
     ·show s.size - (j+1) < s.size - j;omega
     ·exact ⟨by show j+1≤s.size;omega,hnext⟩
  ·have hbad:¬ NameOk s:=fun h=>hgood (by
    by_cases hj0:j=0
    ·subst hj0;exact .inl (of_decide_eq_true h.first)
    ·have:=h.rest j (by omega) hjl
     unfold restB gR at this
     simp only [Bool.or_eq_true,decide_eq_true_eq] at this
     rcases this with (h|h)|h
     ·exact .inl h
     ·exact .inr ⟨hj0,.inl h⟩
     ·exact .inr ⟨hj0,.inr h⟩)
   cases e2:digB (bt s j)<;>rw [e2] at h2<;>rw [e2] at hgood<;>simp only [Bool.false_eq_true,false_or,true_or,and_true] at hgood
   all_goals
    repeat' (first
 | ((with_reducible apply dm);exact rfl;exact rfl)
 | ((with_reducible apply (fU j));(iterate 3 exact rfl);exact hjl;exact rfl)
 | ((with_reducible apply ah);exact rfl;exact rfl;exact h2;exact rfl;exact rfl)
 | ((first|((with_reducible apply aj);iterate 4 exact rfl)|((with_reducible apply aa);exact rfl))<;>intro hg<;>(first|(exact absurd hg (by decide))|((try simp only [qz,ge_iff_le,List.cons.injEq,and_true] at hg);first|(exact absurd trivial hg)|(exfalso;omega)|(have hT:True:=hg;clear hT hg)|skip)))
 | (refine zs ?_)
 | fail
 )
    all_goals exact aK rfl (name_no hbad)
 ·obtain rfl:j=s.size:=by omega
  repeat' (first
 | ((with_reducible apply dm);exact rfl;exact rfl)
 | (((with_reducible apply aa);exact rfl)<;>intro hg<;>(first|(exact absurd hg (by decide))|((try simp only [qz,ge_iff_le,List.cons.injEq,and_true] at hg);first|(exact absurd trivial hg)|(exfalso;omega)|(have hT:True:=hg;clear hT hg)|skip)))
 | (refine zs ?_)
 | fail
 )
  exact aK rfl (name_yes ⟨l1,l2,hfst (by omega),hall⟩).symm
end Go.Proofs.YtdndfncpglfdeaaGreatDoor.Ge
