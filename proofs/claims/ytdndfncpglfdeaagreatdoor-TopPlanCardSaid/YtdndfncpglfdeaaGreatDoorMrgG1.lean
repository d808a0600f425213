/- GB GC GD: texts laid together. -/
import Derived.Test.YtdndfncpglfdeaaGreatDoorMrgG0
import Derived.Test.YtdndfncpglfdeaaGreatDoorMrgS
set_option maxRecDepth 100000
set_option maxHeartbeats 64000000

namespace Go.Proofs.YtdndfncpglfdeaaGreatDoor.Ge
set_option linter.unusedVariables false
set_option linter.unusedSimpArgs false
open Go.RowKit Go.Proofs.YtdndfncpglfdeaaGreatDoor.Ev
variable {gl:List (Nat×List CV)}
def wid (s:an):Int:=max 0 (s.2 - s.1)
def di (a b:an):an:=if min a.2 b.2≤max a.1 b.1 then (0,0) else (max a.1 b.1,min a.2 b.2)
def ov (a b:an):Int:=max 0 (min a.2 b.2 - max a.1 b.1)
theorem wid_meet (a b:an):wid (di a b)=ov a b:=by
 unfold wid di ov
 split
 ·show max 0 (0 - 0:Int)=_;omega
 ·rfl
theorem u64_wrap (n:Int):IntKind.u64.wrap n=n % 18446744073709551616:=by simp [IntKind.wrap,IntKind.bits,IntKind.signed]
theorem size_con (a b:Int) (h:aQ a∧aQ b):bm Tryz.prog gl 147 [.agg [I a,I b]] (.v (.int .u64 (wid (a,b)))):=by
 have h':=h
 unfold aQ at h'
 refine ao Tryz.func147 rfl (by kernel_rfl) rfl ?_
 simp only [Tryz.ntmps147,Tryz.results147,am,ofC,aZ,List.map]
 repeat' (first
 | ((with_reducible apply r_conv);iterate 3 exact rfl)
 | ((with_reducible apply r_sub_w);iterate 3 exact rfl)
 | (((with_reducible apply aa);exact rfl)<;>intro hg<;>(first|(exact absurd hg (by decide))|((try simp only [qz,ge_iff_le,List.cons.injEq,and_true] at hg);first|(exact absurd trivial hg)|(exfalso;omega)|(have hT:True:=hg;clear hT hg)|skip)))
 | (refine zs ?_)
 | fail
 )
 ·exact aB rfl (by unfold wid;dsimp only;omega)
 ·exact aB rfl (by rw [u64_wrap,u64_wrap,u64_wrap];unfold wid;dsimp only;omega)
theorem limited_con (n:Int) (h:0≤n∧n≤9223372036854775807):bm Tryz.prog gl 146 [.v (.int .u64 n)] (I n):=by
 refine ao Tryz.func146 rfl (by kernel_rfl) rfl ?_
 simp only [Tryz.ntmps146,Tryz.results146,am,ofC,aZ,List.map]
 repeat' (first
 | ((with_reducible apply r_conv);iterate 3 exact rfl)
 | (refine zs ?_)
 | fail
 )
 exact aB rfl (by rw [show min n 9223372036854775807=n by omega];simp [IntKind.wrap,IntKind.bits,IntKind.signed];omega)
theorem len_con (a b:Int) (h:aQ a∧aQ b) (h2:b - a≤9223372036854775807):bm Tryz.prog gl 113 [.agg [I a,I b]] (I (wid (a,b))):=by
 refine ao Tryz.func113 rfl (by kernel_rfl) rfl ?_
 simp only [Tryz.ntmps113,Tryz.results113,am,ofC,aZ,List.map]
 repeat' (first
 | ((with_reducible apply ah);exact rfl;exact rfl;(first|exact size_con a b h|exact limited_con _ (by unfold wid;dsimp only;omega));exact rfl;exact rfl)
 | (refine zs ?_)
 | fail
 )
 exact aB rfl rfl
theorem iu (a b c d:Int):bm Tryz.prog gl 115 [.agg [I a,I b],.agg [I c,I d]] (spV (di (a,b) (c,d))):=by
 by_cases h:min b d≤max a c
 ·have e:di (a,b) (c,d)=(0,0):=if_pos h
  rw [e]
  refine ao Tryz.func115 rfl (by kernel_rfl) rfl ?_
  simp only [Tryz.ntmps115,Tryz.results115,am,ofC,aZ,List.map]
  repeat' (first
 | (((with_reducible apply aa);exact rfl)<;>intro hg<;>(first|(exact absurd hg (by decide))|((try simp only [qz,ge_iff_le,List.cons.injEq,and_true] at hg);first|(exact absurd trivial hg)|(exfalso;omega)|(have hT:True:=hg;clear hT hg)|skip)))
 | (refine zs ?_)
 | fail
 )
  exact cL (.cell_a inferInstance rfl rfl rfl rfl (al ap (al ap bj)))
 ·have e:di (a,b) (c,d)=(max a c,min b d):=if_neg h
  rw [e]
  refine ao Tryz.func115 rfl (by kernel_rfl) rfl ?_
  simp only [Tryz.ntmps115,Tryz.results115,am,ofC,aZ,List.map]
  repeat' (first
 | (((with_reducible apply aa);exact rfl)<;>intro hg<;>(first|(exact absurd hg (by decide))|((try simp only [qz,ge_iff_le,List.cons.injEq,and_true] at hg);first|(exact absurd trivial hg)|(exfalso;omega)|(have hT:True:=hg;clear hT hg)|skip)))
 | (refine zs ?_)
 | fail
 )
  exact cL (.cell_a inferInstance rfl rfl rfl rfl (al ap (al ap bj)))
theorem gK (a b:Int) (h:-100000≤a∧a≤100000∧-100000≤b∧b≤100000):bm Tryz.prog gl 93 [I a,I b] (spV (10 * a,10 * b)):=by
 refine ao Tryz.func93 rfl (by kernel_rfl) rfl ?_
 simp only [Tryz.ntmps93,Tryz.results93,am,ofC,aZ,List.map]
 repeat' (first
 | (refine zs ?_)
 | fail
 )
 exact cL (.cell_a inferInstance rfl rfl rfl rfl (al ap (al ap bj)))
noncomputable def valS (s:Sec):Sec:=open Classical in if bq s=0 then s else sec0
theorem gL {s:Sec} (h:bq s=0):valS s=s:=by unfold valS;rw [if_pos h]
theorem valS_no {s:Sec} (h:¬ bq s=0):valS s=sec0:=by unfold valS;rw [if_neg h]
theorem valid_con (s:Sec):bm Tryz.prog gl 91 [secC s] (secC (valS s)):=by
 by_cases h:bq s=0
 ·rw [gL h]
  refine ao Tryz.func91 rfl (by kernel_rfl) rfl ?_
  simp only [Tryz.ntmps91,Tryz.results91,am,ofC,aZ,List.map]
  repeat' (first
 | ((with_reducible apply ah);exact rfl;exact rfl;exact iq s;exact rfl;exact rfl)
 | (((with_reducible apply aa);exact rfl)<;>intro hg<;>(first|(exact absurd hg (by decide))|((try simp only [qz,ge_iff_le,List.cons.injEq,and_true] at hg);first|(exact absurd trivial hg)|(exfalso;omega)|(have hT:True:=hg;clear hT hg)|skip)))
 | (refine zs ?_)
 | fail
 )
  exact cL (.cell_a inferInstance rfl rfl rfl rfl (al ap (al ap bj)))
 ·rw [valS_no h]
  refine ao Tryz.func91 rfl (by kernel_rfl) rfl ?_
  simp only [Tryz.ntmps91,Tryz.results91,am,ofC,aZ,List.map]
  repeat' (first
 | ((with_reducible apply ah);exact rfl;exact rfl;exact iq s;exact rfl;exact rfl)
 | (((with_reducible apply aa);exact rfl)<;>intro hg<;>(first|(exact absurd hg (by decide))|((try simp only [qz,ge_iff_le,List.cons.injEq,and_true] at hg);first|(exact absurd trivial hg)|(exfalso;omega)|(have hT:True:=hg;clear hT hg)|skip)))
 | (refine zs ?_)
 | fail
 )
  exact cL (.cell_a inferInstance rfl rfl rfl rfl (al ap (al bP bj)))
theorem rvalid_con (s:Sec):bm Tryz.prog gl 90 [secC s] (secC (valS s)):=by
 by_cases h:bq s=0
 ·rw [gL h]
  refine ao Tryz.func90 rfl (by kernel_rfl) rfl ?_
  simp only [Tryz.ntmps90,Tryz.results90,am,ofC,aZ,List.map]
  repeat' (first
 | ((with_reducible apply ah);exact rfl;exact rfl;exact rcheck_con s;exact rfl;exact rfl)
 | (((with_reducible apply aa);exact rfl)<;>intro hg<;>(first|(exact absurd hg (by decide))|((try simp only [qz,ge_iff_le,List.cons.injEq,and_true] at hg);first|(exact absurd trivial hg)|(exfalso;omega)|(have hT:True:=hg;clear hT hg)|skip)))
 | (refine zs ?_)
 | fail
 )
  exact cL (.cell_a inferInstance rfl rfl rfl rfl (al ap (al ap bj)))
 ·rw [valS_no h]
  refine ao Tryz.func90 rfl (by kernel_rfl) rfl ?_
  simp only [Tryz.ntmps90,Tryz.results90,am,ofC,aZ,List.map]
  repeat' (first
 | ((with_reducible apply ah);exact rfl;exact rfl;exact rcheck_con s;exact rfl;exact rfl)
 | (((with_reducible apply aa);exact rfl)<;>intro hg<;>(first|(exact absurd hg (by decide))|((try simp only [qz,ge_iff_le,List.cons.injEq,and_true] at hg);first|(exact absurd trivial hg)|(exfalso;omega)|(have hT:True:=hg;clear hT hg)|skip)))
 | (refine zs ?_)
 | fail
 )
  exact cL (.cell_a inferInstance rfl rfl rfl rfl (al ap (al bP bj)))
structure SecV (s:Sec):Prop where
 len:s.rows.length≤120
 low:-60≤s.low
 high:s.low+s.rows.length≤60
 row:∀ i (h:i < s.rows.length),-600≤s.rows[i].1∧s.rows[i].1≤s.rows[i].2∧s.rows[i].2≤600
 zero:∀ i (h:i < s.rows.length),s.rows[i].1 < s.rows[i].2∨s.rows[i]=(0,0)
 ends:∀ h:0 < s.rows.length,(s.rows[0]'h).1 < (s.rows[0]'h).2∧(s.rows[s.rows.length - 1]'(by omega)).1 < (s.rows[s.rows.length - 1]'(by omega)).2
 none:s.rows.length=0→s.low=0
theorem chk_is {s:Sec} (h:bq s=0):SecV s:=by
 have h1:¬ 120 < s.rows.length:=fun hh=>by rw [← sc_long hh] at h;cases h
 have h2:fA s:=Classical.byContradiction fun hh=>by rw [← sc_head h1 hh] at h;cases h
 have h3:∀ i (h:i < s.rows.length),dD s.rows[i]=true:=fun i hi=>by
  cases hr:dD s.rows[i] with
  | true=>rfl
  | false=>rw [← sc_range h1 h2 hi hr] at h;cases h
 have r:SecR s:=⟨h1,h2,h3⟩
 unfold fA at h2
 by_cases h0:s.rows.length=0
 ·refine ⟨by omega,by omega,by omega,fun i hi=>by omega,fun i hi=>by omega,fun hh=>by omega,fun _=>?_⟩
  rw [sc_none r h0] at h
  split at h
  ·assumption
  ·cases h
 have h4:¬ eo s.rows:=fun hh=>by rw [← sc_ends r h0 hh] at h;cases h
 have h5:∀ i (h:i < s.rows.length),gB s.rows[i]=true:=fun i hi=>by
  cases hr:gB s.rows[i] with
  | true=>rfl
  | false=>rw [← sc_row r h0 h4 hi hr] at h;cases h
 have h6:∀ i (h:i < s.rows.length),s.rows[i].1 < s.rows[i].2∨s.rows[i]=(0,0):=fun i hi=>by
  have:=h5 i hi
  unfold gB aO at this
  simp at this
  rcases this with h|h
  ·exact .inl h
  ·exact .inr (Prod.ext h.1 h.2)
 refine ⟨by omega,by omega,by omega,fun i hi=>?_,h6,fun hh=>?_,fun hh=>absurd hh h0⟩
 ·have:=range_get (h3 i hi)
  rcases h6 i hi with h|h
  ·omega
  ·rw [h];decide
 ·unfold eo at h4
  have a1:¬ aO (s.rows[0]'hh)=true:=fun e=>h4 ⟨hh,.inl e⟩
  have a2:¬ aO (s.rows[s.rows.length - 1]'(by omega))=true:=fun e=>h4 ⟨hh,.inr e⟩
  unfold aO at a1 a2
  simp at a1 a2
  exact ⟨a1,a2⟩
theorem sec0_V:SecV sec0:=⟨by decide,by decide,by decide,fun i hi=>(by cases hi),fun i hi=>(by cases hi),fun h=>(by cases h),fun _=>rfl⟩
theorem valS_V (s:Sec):SecV (valS s):=by
 by_cases h:bq s=0
 ·rw [gL h];exact chk_is h
 ·rw [valS_no h];exact sec0_V
def cT (f:Nat→Int):Nat→Int
 | 0=>0
 | n+1=>cT f n+f n
theorem fO {f:Nat→Int} {c:Int} {n:Nat} (h:∀ i,i < n→0≤f i∧f i≤c):∀ j,j≤n→0≤cT f j∧cT f j≤c * j
 | 0,_=>by simp [cT]
 | j+1,hj=>by
  have ih:=fO h j (by omega)
  have h1:=h j (by omega)
  unfold cT
  rw [show ((j+1:Nat):Int)=(j:Int)+1 by omega,Int.mul_add];omega
def dH (s:Sec) (i:Nat):an:=s.rows.getD i (0,0)
theorem dP {s:Sec} {i:Nat} (h:i < s.rows.length):dH s i=s.rows[i]:=by unfold dH;rw [List.getD_eq_getElem?_getD,List.getElem?_eq_getElem h];rfl
def gk (s:Sec):Int:=10 * cT (fun i=>wid (dH s i)) s.rows.length
noncomputable def areaS (s:Sec):Int:=gk (valS s)
theorem wid_row {s:Sec} (v:SecV s) {i:Nat} (hi:i < s.rows.length):wid (dH s i)=s.rows[i].2 - s.rows[i].1∧0≤wid (dH s i)∧wid (dH s i)≤1200:=by
 have:=v.row i hi
 rw [dP hi];unfold wid;omega
theorem area_con (s:Sec):bm Tryz.prog gl 63 [secC s] (I (areaS s)):=by
 have hv:=valid_con (gl:=gl) s
 have v:=valS_V s
 unfold areaS gk
 generalize valS s=u at *
 have hl:=v.len
 have hb:=fO (f:=fun i=>wid (dH u i)) (c:=1200) (n:=u.rows.length) (fun i hi=>(wid_row v hi).2)
 refine ao Tryz.func63 rfl (by kernel_rfl) rfl ?_
 simp only [Tryz.ntmps63,Tryz.results63,am,ofC,aZ,List.map]
 repeat' (first
 | ((with_reducible apply ah);exact rfl;exact rfl;exact hv;exact rfl;exact rfl)
 | (refine zs ?_)
 | fail
 )
 refine au (G:=Nat×Int) (fun ((j,t):Nat×Int)=>j≤u.rows.length∧t=cT (fun i=>wid (dH u i)) j) (fun ((j,t):Nat×Int)=>u.rows.length - j) (fun ((j,t):Nat×Int)=>[(3,A t),(8,.c (LS u.rows)),(9,A u.rows.length),(10,A j)]) (fun ((j,t):Nat×Int)=>[(0,some (secB s))]) 1 (0,0) ?_ (by refine ak rfl ?_ ?_<;>repeat (first|exact ai|exact ac|refine ae rfl rfl ?_|refine ab rfl rfl rfl ?_)) rfl ?_
 ·exact ⟨Nat.zero_le _,rfl⟩
 rintro ⟨j,t⟩ hI
 try dsimp only at hI
 try dsimp only
 obtain ⟨hj,ht⟩:=hI
 have hbj:=hb j hj
 rw [← ht] at hbj
 by_cases hjl:j < u.rows.length
 ·have hr:=v.row j hjl
  have hw:wid (u.rows[j].1,u.rows[j].2)=wid (dH u j):=by rw [dP hjl]
  have hw2:=(wid_row v hjl).2
  have hc:=len_con (gl:=gl) u.rows[j].1 u.rows[j].2 (by unfold aQ;omega) (by omega)
  rw [hw] at hc
  repeat' (first
 | ((with_reducible apply ah);exact rfl;exact rfl;exact hc;exact rfl;exact rfl)
 | (((with_reducible apply aa);exact rfl)<;>intro hg<;>(first|(exact absurd hg (by decide))|((try simp only [qz,ge_iff_le,List.cons.injEq,and_true] at hg);first|(exact absurd trivial hg)|(exfalso;omega)|(have hT:True:=hg;clear hT hg)|skip)))
 | (refine zs ?_)
 | fail
 )
  refine ⟨(j+1,t+wid (dH u j)),?_,?_,by refine ak rfl ?_ ?_<;>repeat (first|exact ai|exact ac|refine ae rfl rfl ?_|refine ab rfl rfl rfl ?_)⟩
  ·show _ - (j+1) < _ - j;omega
  ·exact ⟨by show j+1≤_;omega,by show t+_=cT _ j+_;rw [ht]⟩
 ·obtain rfl:j=u.rows.length:=by omega
  repeat' (first
 | (((with_reducible apply aa);exact rfl)<;>intro hg<;>(first|(exact absurd hg (by decide))|((try simp only [qz,ge_iff_le,List.cons.injEq,and_true] at hg);first|(exact absurd trivial hg)|(exfalso;omega)|(have hT:True:=hg;clear hT hg)|skip)))
 | (refine zs ?_)
 | fail
 )
  exact aB rfl (by rw [ht])
def inV (s:Sec) (X Y:an):Int:=cT (fun i=>ov (dH s i) X * ov (10 * (s.low+i),10 * (s.low+i+1)) Y) s.rows.length
noncomputable def inS (s:Sec) (X Y:an):Int:=inV (valS s) X Y
theorem ov_row {s:Sec} (v:SecV s) {i:Nat} (hi:i < s.rows.length) (X:an):0≤ov (dH s i) X∧ov (dH s i) X≤1200:=by
 have:=v.row i hi
 rw [dP hi];unfold ov;omega
theorem ov_h (r:Int) (Y:an):0≤ov (10 * r,10 * (r+1)) Y∧ov (10 * r,10 * (r+1)) Y≤10:=by
 unfold ov;dsimp only;omega
theorem mul_bd2 {a b m k:Int} (h1:0≤a∧a≤m) (h2:0≤b∧b≤k):0≤a * b∧a * b≤m * k:=by
 refine ⟨Int.mul_nonneg h1.1 h2.1,?_⟩
 exact Int.le_trans (Int.mul_le_mul_of_nonneg_right h1.2 h2.1) (Int.mul_le_mul_of_nonneg_left h2.2 (by omega))
theorem in_bd {s:Sec} (v:SecV s) (X Y:an) {i:Nat} (hi:i < s.rows.length):0≤ov (dH s i) X * ov (10 * (s.low+i),10 * (s.low+i+1)) Y∧ov (dH s i) X * ov (10 * (s.low+i),10 * (s.low+i+1)) Y≤12000 :=
 mul_bd2 (m:=1200) (k:=10) (ov_row v hi X) (ov_h _ Y)
theorem meet_bd {a X:an} (h:-600000≤a.1∧a.2≤600000∧a.1≤a.2):-600000≤(di a X).1∧(di a X).1≤600000∧-600000≤(di a X).2∧(di a X).2≤600000:=by
 unfold di;split
 ·exact ⟨by decide,by decide,by decide,by decide⟩
 ·dsimp only;omega
theorem len_meet {a X:an} (h:-600000≤a.1∧a.2≤600000∧a.1≤a.2):bm Tryz.prog gl 113 [spV (di a X)] (I (ov a X)):=by
 have:=meet_bd (X:=X) h
 rw [← wid_meet]
 exact len_con _ _ (by unfold aQ;omega) (by omega)
theorem within_con (s:Sec) (X Y:an):bm Tryz.prog gl 116 [secC s,.agg [I X.1,I X.2,I Y.1,I Y.2]] (I (inS s X Y)):=by
 have hv:=valid_con (gl:=gl) s
 have v:=valS_V s
 unfold inS inV
 generalize valS s=u at *
 have hl:=v.len
 have hlow:=v.low
 have hhigh:=v.high
 have hb:=fO (c:=12000) (n:=u.rows.length) (fun i hi=>in_bd v X Y hi)
 refine ao Tryz.func116 rfl (by kernel_rfl) rfl ?_
 simp only [Tryz.ntmps116,Tryz.results116,am,ofC,aZ,List.map]
 repeat' (first
 | ((with_reducible apply ah);exact rfl;exact rfl;exact hv;exact rfl;exact rfl)
 | (refine zs ?_)
 | fail
 )
 refine au (G:=Nat×Int) (fun ((j,t):Nat×Int)=>j≤u.rows.length∧t=cT (fun i=>ov (dH u i) X * ov (10 * (u.low+i),10 * (u.low+i+1)) Y) j) (fun ((j,t):Nat×Int)=>u.rows.length - j) (fun ((j,t):Nat×Int)=>[(2,.ptr 0 0),(3,.ptr 1 0),(5,A t),(12,.c (LS u.rows)),(13,A u.rows.length),(14,A j)]) (fun ((j,t):Nat×Int)=>[(0,some (secB u)),(1,some (.cells 37 [A X.1,A X.2,A Y.1,A Y.2]))]) 2 (0,0) ?_ (by refine ak rfl ?_ ?_<;>repeat (first|exact ai|exact ac|refine ae rfl rfl ?_|refine ab rfl rfl rfl ?_)) rfl ?_
 ·exact ⟨Nat.zero_le _,rfl⟩
 rintro ⟨j,t⟩ hI
 try dsimp only at hI
 try dsimp only
 obtain ⟨hj,ht⟩:=hI
 have hbj:=hb j hj
 rw [← ht] at hbj
 by_cases hjl:j < u.rows.length
 ·have hr:=v.row j hjl
  have hx:=in_bd v X Y hjl
  have h1:=iu (gl:=gl) u.rows[j].1 u.rows[j].2 X.1 X.2
  have h2:=len_meet (gl:=gl) (a:=u.rows[j]) (X:=X) (by omega)
  have h3:=gK (gl:=gl) (u.low+j) (u.low+j+1) (by omega)
  have h4:=iu (gl:=gl) (10 * (u.low+j)) (10 * (u.low+j+1)) Y.1 Y.2
  have h5:=len_meet (gl:=gl) (a:=(10 * (u.low+j),10 * (u.low+j+1))) (X:=Y) (by dsimp only;omega)
  have hf:aQ (ov u.rows[j] X * ov (10 * (u.low+j),10 * (u.low+j+1)) Y):=by rw [← dP hjl];unfold aQ;omega
  have hf2:aQ (t+ov u.rows[j] X * ov (10 * (u.low+j),10 * (u.low+j+1)) Y):=by rw [← dP hjl];unfold aQ;omega
  repeat' (first
 | ((with_reducible apply ah);exact rfl;exact rfl;(first|exact h1|exact h2|exact h3|exact h4|exact h5);exact rfl;exact rfl)
 | (((with_reducible apply aa);exact rfl)<;>intro hg<;>(first|(exact absurd hg (by decide))|((try simp only [qz,ge_iff_le,List.cons.injEq,and_true] at hg);first|(exact absurd trivial hg)|(exfalso;omega)|(have hT:True:=hg;clear hT hg)|skip)))
 | (refine zs ?_)
 | fail
 )
  refine ⟨(j+1,t+ov u.rows[j] X * ov (10 * (u.low+j),10 * (u.low+j+1)) Y),?_,?_,by refine ak rfl ?_ ?_<;>repeat (first|exact ai|exact ac|refine ae rfl rfl ?_|refine ab rfl rfl rfl ?_)⟩
  ·show _ - (j+1) < _ - j;omega
  ·exact ⟨by show j+1≤_;omega,by show t+_=cT _ j+ov (dH u j) X * _;rw [ht,dP hjl]⟩
 ·obtain rfl:j=u.rows.length:=by omega
  repeat' (first
 | (((with_reducible apply aa);exact rfl)<;>intro hg<;>(first|(exact absurd hg (by decide))|((try simp only [qz,ge_iff_le,List.cons.injEq,and_true] at hg);first|(exact absurd trivial hg)|(exfalso;omega)|(have hT:True:=hg;clear hT hg)|skip)))
 | (refine zs ?_)
 | fail
 )
  exact aB rfl ht
end Go.Proofs.YtdndfncpglfdeaaGreatDoor.Ge

namespace Go.Proofs.YtdndfncpglfdeaaGreatDoor.Ge
set_option linter.unusedVariables false
set_option linter.unusedSimpArgs false
open Go.RowKit Go.Proofs.YtdndfncpglfdeaaGreatDoor.Ev
variable {gl:List (Nat×List CV)}
structure Slc where
 len:Int
 sec:Sec
def slcC (x:Slc):List CV:=[I x.len,I x.sec.low,LS x.sec.rows]
instance:EncL slcC 3:=⟨fun _=>rfl,by decide,fun _=>rfl⟩
abbrev LL (l:List Slc):CV:=.lst 3 (l.flatMap slcC)
noncomputable def eW:List Slc→Int→Int
 | [],_=>0
 | x::xs,t=>open Classical in if bq x.sec≠0 then bq x.sec else if x.sec.rows.length=0 then 18 else if x.len < 1∨20000 - t < x.len then 9 else eW xs (t+x.len)
noncomputable def aX (l:List Slc):Int:=if l.length=0 then 3 else if 24 < l.length then 4 else eW l 0
theorem sg_sec {l:List Slc} {j:Nat} (hj:j < l.length) {t:Int} (h:¬ bq l[j].sec=0):bq l[j].sec=eW (l.drop j) t:=by
 rw [bk l j hj];unfold eW;rw [if_pos h]
theorem sg_none {l:List Slc} {j:Nat} (hj:j < l.length) {t:Int} (h:bq l[j].sec=0) (h2:l[j].sec.rows.length=0):18=eW (l.drop j) t:=by
 rw [bk l j hj];unfold eW;rw [if_neg (fun hh=>hh h),if_pos h2]
theorem sg_range {l:List Slc} {j:Nat} (hj:j < l.length) {t:Int} (h:bq l[j].sec=0) (h2:¬ l[j].sec.rows.length=0) (h3:l[j].len < 1∨20000 - t < l[j].len):9=eW (l.drop j) t:=by
 rw [bk l j hj];unfold eW;rw [if_neg (fun hh=>hh h),if_neg h2,if_pos h3]
theorem sg_ok {l:List Slc} {j:Nat} (hj:j < l.length) {t:Int} (h:bq l[j].sec=0) (h2:¬ l[j].sec.rows.length=0) (h3:¬ (l[j].len < 1∨20000 - t < l[j].len)):eW (l.drop j) t=eW (l.drop (j+1)) (t+l[j].len):=by
 rw [bk l j hj];conv=>lhs;unfold eW
 rw [if_neg (fun hh=>hh h),if_neg h2,if_neg h3]
theorem sol_0 {l:List Slc} (h:l.length=0):3=aX l:=by unfold aX;rw [if_pos h]
theorem sol_24 {l:List Slc} (h:¬ l.length=0) (h2:24 < l.length):4=aX l:=by unfold aX;rw [if_neg h,if_pos h2]
theorem sol_go {l:List Slc} (h:¬ l.length=0) (h2:¬ 24 < l.length):aX l=eW (l.drop 0) 0:=by unfold aX;rw [if_neg h,if_neg h2];rfl
theorem eX (l:List Slc) (hn:l.length≤maxLen):bm Tryz.prog gl 48 [LL l] (I (aX l)):=by
 refine ao Tryz.func48 rfl (by kernel_rfl) rfl ?_
 simp only [Tryz.ntmps48,Tryz.results48,am,ofC,aZ,List.map]
 by_cases h0:l.length=0
 ·skip
  repeat' (first
 | (((with_reducible apply aa);exact rfl)<;>intro hg<;>(first|(exact absurd hg (by decide))|((try simp only [qz,ge_iff_le,List.cons.injEq,and_true] at hg);first|(exact absurd trivial hg)|(exfalso;omega)|(have hT:True:=hg;clear hT hg)|skip)))
 | (refine zs ?_)
 | fail
 )
  exact aB rfl (sol_0 h0)
 by_cases h24:24 < l.length
 ·skip
  repeat' (first
 | (((with_reducible apply aa);exact rfl)<;>intro hg<;>(first|(exact absurd hg (by decide))|((try simp only [qz,ge_iff_le,List.cons.injEq,and_true] at hg);first|(exact absurd trivial hg)|(exfalso;omega)|(have hT:True:=hg;clear hT hg)|skip)))
 | (refine zs ?_)
 | fail
 )
  exact aB rfl (sol_24 h0 h24)
 rw [sol_go h0 h24]
 repeat' (first
 | (((with_reducible apply aa);exact rfl)<;>intro hg<;>(first|(exact absurd hg (by decide))|((try simp only [qz,ge_iff_le,List.cons.injEq,and_true] at hg);first|(exact absurd trivial hg)|(exfalso;omega)|(have hT:True:=hg;clear hT hg)|skip)))
 | (refine zs ?_)
 | fail
 )
 refine au (G:=Nat×Int) (fun ((j,t):Nat×Int)=>j≤l.length∧0≤t∧t≤20000∧eW (l.drop 0) 0=eW (l.drop j) t) (fun ((j,t):Nat×Int)=>l.length - j) (fun ((j,t):Nat×Int)=>[(3,A t),(13,.c (LL l)),(14,A l.length),(15,A j)]) (fun ((j,t):Nat×Int)=>[]) 0 (0,0) ?_ (by refine ak rfl ?_ ?_<;>repeat (first|exact ai|exact ac|refine ae rfl rfl ?_|refine ab rfl rfl rfl ?_)) rfl ?_
 ·exact ⟨Nat.zero_le _,by decide,by decide,rfl⟩
 rintro ⟨j,t⟩ hI
 try dsimp only at hI
 try dsimp only
 obtain ⟨hj,ht1,ht2,hgo⟩:=hI
 by_cases hjl:j < l.length
 ·have hc:=iq (gl:=gl) l[j].sec
  repeat' (first
 | ((with_reducible apply ah);exact rfl;exact rfl;exact hc;exact rfl;exact rfl)
 | ((first|((with_reducible apply aj);iterate 4 exact rfl)|((with_reducible apply aa);exact rfl))<;>intro hg<;>(first|(exact absurd hg (by decide))|((try simp only [qz,ge_iff_le,List.cons.injEq,and_true] at hg);first|(exact absurd trivial hg)|(exfalso;omega)|(have hT:True:=hg;clear hT hg)|skip)))
 | (refine zs ?_)
 | fail
 )
  all_goals first
   | exact aB rfl ((sg_sec hjl hg).trans hgo.symm)
   | exact aB rfl ((sg_none hjl (by assumption) (by omega)).trans hgo.symm)
   | exact aB rfl ((sg_range hjl (by assumption) (by omega) (by omega)).trans hgo.symm)
   | skip
  have hs:bq l[j].sec=0:=by assumption
  refine ⟨(j+1,t+l[j].len),?_,?_,by refine ak rfl ?_ ?_<;>repeat (first|exact ai|exact ac|refine ae rfl rfl ?_|refine ab rfl rfl rfl ?_)⟩
  ·show _ - (j+1) < _ - j;omega
  ·exact ⟨by show j+1≤_;omega,by show 0≤t+l[j].len;omega,by show t+l[j].len≤20000;omega,hgo.trans (sg_ok hjl hs (by omega) (by omega))⟩
 ·skip
  repeat' (first
 | (((with_reducible apply aa);exact rfl)<;>intro hg<;>(first|(exact absurd hg (by decide))|((try simp only [qz,ge_iff_le,List.cons.injEq,and_true] at hg);first|(exact absurd trivial hg)|(exfalso;omega)|(have hT:True:=hg;clear hT hg)|skip)))
 | (refine zs ?_)
 | fail
 )
  exact aB rfl (by rw [hgo,List.drop_eq_nil_of_le (by omega)];rfl)
theorem rscheck_con (l:List Slc) (hn:l.length≤maxLen):bm Tryz.prog gl 14 [LL l] (I (aX l)):=by
 refine ao Tryz.func14 rfl (by kernel_rfl) rfl ?_
 simp only [Tryz.ntmps14,Tryz.results14,am,ofC,aZ,List.map]
 by_cases h0:l.length=0
 ·skip
  repeat' (first
 | (((with_reducible apply aa);exact rfl)<;>intro hg<;>(first|(exact absurd hg (by decide))|((try simp only [qz,ge_iff_le,List.cons.injEq,and_true] at hg);first|(exact absurd trivial hg)|(exfalso;omega)|(have hT:True:=hg;clear hT hg)|skip)))
 | (refine zs ?_)
 | fail
 )
  exact aB rfl (sol_0 h0)
 by_cases h24:24 < l.length
 ·skip
  repeat' (first
 | (((with_reducible apply aa);exact rfl)<;>intro hg<;>(first|(exact absurd hg (by decide))|((try simp only [qz,ge_iff_le,List.cons.injEq,and_true] at hg);first|(exact absurd trivial hg)|(exfalso;omega)|(have hT:True:=hg;clear hT hg)|skip)))
 | (refine zs ?_)
 | fail
 )
  exact aB rfl (sol_24 h0 h24)
 rw [sol_go h0 h24]
 repeat' (first
 | (((with_reducible apply aa);exact rfl)<;>intro hg<;>(first|(exact absurd hg (by decide))|((try simp only [qz,ge_iff_le,List.cons.injEq,and_true] at hg);first|(exact absurd trivial hg)|(exfalso;omega)|(have hT:True:=hg;clear hT hg)|skip)))
 | (refine zs ?_)
 | fail
 )
 refine au (G:=Nat×Int) (fun ((j,t):Nat×Int)=>j≤l.length∧0≤t∧t≤20000∧eW (l.drop 0) 0=eW (l.drop j) t) (fun ((j,t):Nat×Int)=>l.length - j) (fun ((j,t):Nat×Int)=>[(0,.c (LL l)),(3,A t),(4,A j)]) (fun ((j,t):Nat×Int)=>[]) 0 (0,0) ?_ (by refine ak rfl ?_ ?_<;>repeat (first|exact ai|exact ac|refine ae rfl rfl ?_|refine ab rfl rfl rfl ?_)) rfl ?_
 ·exact ⟨Nat.zero_le _,by decide,by decide,rfl⟩
 rintro ⟨j,t⟩ hI
 try dsimp only at hI
 try dsimp only
 obtain ⟨hj,ht1,ht2,hgo⟩:=hI
 by_cases hjl:j < l.length
 ·have hc:=rcheck_con (gl:=gl) l[j].sec
  repeat' (first
 | ((with_reducible apply ah);exact rfl;exact rfl;exact hc;exact rfl;exact rfl)
 | ((with_reducible apply (r_field_e2 (j:=1)));exact rfl;exact rfl)
 | ((first|((with_reducible apply aj);iterate 4 exact rfl)|((with_reducible apply aa);exact rfl))<;>intro hg<;>(first|(exact absurd hg (by decide))|((try simp only [qz,ge_iff_le,List.cons.injEq,and_true] at hg);first|(exact absurd trivial hg)|(exfalso;omega)|(have hT:True:=hg;clear hT hg)|skip)))
 | (refine zs ?_)
 | fail
 )
  all_goals first
   | exact aB rfl ((sg_sec hjl hg).trans hgo.symm)
   | exact aB rfl ((sg_none hjl (by assumption) (by omega)).trans hgo.symm)
   | exact aB rfl ((sg_range hjl (by assumption) (by omega) (by omega)).trans hgo.symm)
   | skip
  have hs:bq l[j].sec=0:=by assumption
  refine ⟨(j+1,t+l[j].len),?_,?_,by refine ak rfl ?_ ?_<;>repeat (first|exact ai|exact ac|refine ae rfl rfl ?_|refine ab rfl rfl rfl ?_)⟩
  ·show _ - (j+1) < _ - j;omega
  ·exact ⟨by show j+1≤_;omega,by show 0≤t+l[j].len;omega,by show t+l[j].len≤20000;omega,hgo.trans (sg_ok hjl hs (by omega) (by omega))⟩
 ·skip
  repeat' (first
 | (((with_reducible apply aa);exact rfl)<;>intro hg<;>(first|(exact absurd hg (by decide))|((try simp only [qz,ge_iff_le,List.cons.injEq,and_true] at hg);first|(exact absurd trivial hg)|(exfalso;omega)|(have hT:True:=hg;clear hT hg)|skip)))
 | (refine zs ?_)
 | fail
 )
  exact aB rfl (by rw [hgo,List.drop_eq_nil_of_le (by omega)];rfl)
def slc0:Slc:=⟨0,sec0⟩
def fz (l:List Slc) (i:Nat):Int:=(l.getD i slc0).len
def cZ (l:List Slc) (i:Nat):Sec:=(l.getD i slc0).sec
def pos (l:List Slc) (i:Nat):Int:=cT (fz l) i
theorem cJ {l:List Slc} {i:Nat} (h:i < l.length):fz l i=l[i].len:=by unfold fz;rw [List.getD_eq_getElem?_getD,List.getElem?_eq_getElem h];rfl
theorem eL {l:List Slc} {i:Nat} (h:i < l.length):cZ l i=l[i].sec:=by unfold cZ;rw [List.getD_eq_getElem?_getD,List.getElem?_eq_getElem h];rfl
theorem dJ (l:List Slc) (i:Nat):pos l (i+1)=pos l i+fz l i:=rfl
structure SolV (l:List Slc):Prop where
 n:l.length≤24
 chk:∀ i (h:i < l.length),bq l[i].sec=0
 some:∀ i (h:i < l.length),¬ l[i].sec.rows.length=0
 one:∀ i (h:i < l.length),1≤l[i].len
 all:pos l l.length≤20000
theorem go_V {l:List Slc}:∀ (n j:Nat) (t:Int),j+n=l.length→t=pos l j→t≤20000→eW (l.drop j) t=0→(∀ i (h:i < l.length),j≤i→bq l[i].sec=0∧¬ l[i].sec.rows.length=0∧1≤l[i].len)∧pos l l.length≤20000
 | 0,j,t,hj,ht,h20,_=>⟨fun i hi hji=>by omega,by rw [← show j=l.length by omega,← ht];exact h20⟩
 | n+1,j,t,hj,ht,h20,h=>by
  have hjl:j < l.length:=by omega
  have h1:bq l[j].sec=0:=Classical.byContradiction fun hh=>hh (by rw [sg_sec (t:=t) hjl hh];exact h)
  have h2:¬ l[j].sec.rows.length=0:=fun hh=>by rw [← sg_none (t:=t) hjl h1 hh] at h;cases h
  have h3:¬ (l[j].len < 1∨20000 - t < l[j].len):=fun hh=>by rw [← sg_range hjl h1 h2 hh] at h;cases h
  rw [sg_ok hjl h1 h2 h3] at h
  obtain ⟨i1,i2⟩:=go_V n (j+1) (t+l[j].len) (by omega) (by rw [dJ,cJ hjl,ht]) (by omega) h
  refine ⟨fun i hi hji=>?_,i2⟩
  by_cases he:i=j
  ·subst he;exact ⟨h1,h2,by omega⟩
  ·exact i1 i hi (by omega)
theorem sol_V {l:List Slc} (h:aX l=0):SolV l:=by
 have h0:¬ l.length=0:=fun hh=>by rw [← sol_0 hh] at h;cases h
 have h24:¬ 24 < l.length:=fun hh=>by rw [← sol_24 h0 hh] at h;cases h
 rw [sol_go h0 h24] at h
 obtain ⟨h1,h2⟩:=go_V l.length 0 0 (by omega) rfl (by decide) h
 exact ⟨by omega,fun i hi=>(h1 i hi (by omega)).1,fun i hi=>(h1 i hi (by omega)).2.1,fun i hi=>(h1 i hi (by omega)).2.2,h2⟩
theorem nil_V:SolV []:=⟨by decide,fun i h=>(by cases h),fun i h=>(by cases h),fun i h=>(by cases h),by decide⟩
noncomputable def iy (l:List Slc):List Slc:=if aX l=0 then l else []
theorem gC {l:List Slc} (h:aX l=0):iy l=l:=by unfold iy;rw [if_pos h]
theorem valL_no {l:List Slc} (h:¬ aX l=0):iy l=[]:=by unfold iy;rw [if_neg h]
theorem valL_V (l:List Slc):SolV (iy l):=by
 by_cases h:aX l=0
 ·rw [gC h];exact sol_V h
 ·rw [valL_no h];exact nil_V
theorem iR (l:List Slc) (hn:l.length≤maxLen):bm Tryz.prog gl 46 [LL l] (LL (iy l)):=by
 by_cases h:aX l=0
 ·rw [gC h]
  refine ao Tryz.func46 rfl (by kernel_rfl) rfl ?_
  simp only [Tryz.ntmps46,Tryz.results46,am,ofC,aZ,List.map]
  repeat' (first
 | ((with_reducible apply ah);exact rfl;exact rfl;exact eX l hn;exact rfl;exact rfl)
 | (((with_reducible apply aa);exact rfl)<;>intro hg<;>(first|(exact absurd hg (by decide))|((try simp only [qz,ge_iff_le,List.cons.injEq,and_true] at hg);first|(exact absurd trivial hg)|(exfalso;omega)|(have hT:True:=hg;clear hT hg)|skip)))
 | (refine zs ?_)
 | fail
 )
  exact cL (.tmp rfl ap)
 ·rw [valL_no h]
  refine ao Tryz.func46 rfl (by kernel_rfl) rfl ?_
  simp only [Tryz.ntmps46,Tryz.results46,am,ofC,aZ,List.map]
  repeat' (first
 | ((with_reducible apply ah);exact rfl;exact rfl;exact eX l hn;exact rfl;exact rfl)
 | (((with_reducible apply aa);exact rfl)<;>intro hg<;>(first|(exact absurd hg (by decide))|((try simp only [qz,ge_iff_le,List.cons.injEq,and_true] at hg);first|(exact absurd trivial hg)|(exfalso;omega)|(have hT:True:=hg;clear hT hg)|skip)))
 | (refine zs ?_)
 | fail
 )
  exact cL (.tmp rfl bP)
theorem pos_mono {l:List Slc} (v:SolV l):∀ k j,j+k≤l.length→pos l j≤pos l (j+k)
 | 0,j,_=>Int.le_refl _
 | k+1,j,h=>by
  have ih:=pos_mono v k j (by omega)
  have:=v.one (j+k) (by omega)
  rw [← Nat.add_assoc,dJ,cJ (show j+k < l.length by omega)];omega
theorem eZ {l:List Slc} (v:SolV l) {j:Nat} (hj:j≤l.length):0≤pos l j∧pos l j≤20000:=by
 have h1:=pos_mono v j 0 (by omega)
 have h2:=pos_mono v (l.length - j) j (by omega)
 rw [show j+(l.length - j)=l.length by omega] at h2
 rw [Nat.zero_add] at h1
 have:=v.all
 have h3:pos l 0=0:=rfl
 omega
noncomputable def aw (l:List Slc):Int:=pos (iy l) (iy l).length
theorem fu (l:List Slc) (hn:l.length≤maxLen):bm Tryz.prog gl 65 [LL l] (I (aw l)):=by
 have hv:=iR (gl:=gl) l hn
 have v:=valL_V l
 unfold aw
 generalize iy l=u at *
 have hu:=v.n
 refine ao Tryz.func65 rfl (by kernel_rfl) rfl ?_
 simp only [Tryz.ntmps65,Tryz.results65,am,ofC,aZ,List.map]
 repeat' (first
 | ((with_reducible apply ah);exact rfl;exact rfl;exact hv;exact rfl;exact rfl)
 | (refine zs ?_)
 | fail
 )
 refine au (G:=Nat×Int) (fun ((j,t):Nat×Int)=>j≤u.length∧t=pos u j) (fun ((j,t):Nat×Int)=>u.length - j) (fun ((j,t):Nat×Int)=>[(3,A t),(7,.c (LL u)),(8,A u.length),(9,A j)]) (fun ((j,t):Nat×Int)=>[]) 0 (0,0) ?_ (by refine ak rfl ?_ ?_<;>repeat (first|exact ai|exact ac|refine ae rfl rfl ?_|refine ab rfl rfl rfl ?_)) rfl ?_
 ·exact ⟨Nat.zero_le _,rfl⟩
 rintro ⟨j,t⟩ hI
 try dsimp only at hI
 try dsimp only
 obtain ⟨hj,ht⟩:=hI
 have hb:=eZ v hj
 by_cases hjl:j < u.length
 ·have hb2:=eZ v (j:=j+1) (by omega)
  rw [dJ,cJ hjl] at hb2
  repeat' (first
 | (((with_reducible apply aa);exact rfl)<;>intro hg<;>(first|(exact absurd hg (by decide))|((try simp only [qz,ge_iff_le,List.cons.injEq,and_true] at hg);first|(exact absurd trivial hg)|(exfalso;omega)|(have hT:True:=hg;clear hT hg)|skip)))
 | (refine zs ?_)
 | fail
 )
  refine ⟨(j+1,t+u[j].len),?_,?_,by refine ak rfl ?_ ?_<;>repeat (first|exact ai|exact ac|refine ae rfl rfl ?_|refine ab rfl rfl rfl ?_)⟩
  ·show _ - (j+1) < _ - j;omega
  ·exact ⟨by show j+1≤_;omega,by show t+u[j].len=_;rw [dJ,cJ hjl,ht]⟩
 ·obtain rfl:j=u.length:=by omega
  repeat' (first
 | (((with_reducible apply aa);exact rfl)<;>intro hg<;>(first|(exact absurd hg (by decide))|((try simp only [qz,ge_iff_le,List.cons.injEq,and_true] at hg);first|(exact absurd trivial hg)|(exfalso;omega)|(have hT:True:=hg;clear hT hg)|skip)))
 | (refine zs ?_)
 | fail
 )
  exact aB rfl ht
theorem lengthS_no {l:List Slc} (h:¬ aX l=0):0=aw l:=by unfold aw;rw [valL_no h];rfl
theorem rslength_con (l:List Slc) (hn:l.length≤maxLen):bm Tryz.prog gl 16 [LL l] (I (aw l)):=by
 have hc:=rscheck_con (gl:=gl) l hn
 refine ao Tryz.func16 rfl (by kernel_rfl) rfl ?_
 simp only [Tryz.ntmps16,Tryz.results16,am,ofC,aZ,List.map]
 by_cases h:aX l=0
 rotate_left
 ·skip
  repeat' (first
 | ((with_reducible apply ah);exact rfl;exact rfl;exact hc;exact rfl;exact rfl)
 | (((with_reducible apply aa);exact rfl)<;>intro hg<;>(first|(exact absurd hg (by decide))|((try simp only [qz,ge_iff_le,List.cons.injEq,and_true] at hg);first|(exact absurd trivial hg)|(exfalso;omega)|(have hT:True:=hg;clear hT hg)|skip)))
 | (refine zs ?_)
 | fail
 )
  exact aB rfl (lengthS_no h)
 unfold aw
 rw [gC h]
 have v:=sol_V h
 have hu:=v.n
 repeat' (first
 | ((with_reducible apply ah);exact rfl;exact rfl;exact hc;exact rfl;exact rfl)
 | (((with_reducible apply aa);exact rfl)<;>intro hg<;>(first|(exact absurd hg (by decide))|((try simp only [qz,ge_iff_le,List.cons.injEq,and_true] at hg);first|(exact absurd trivial hg)|(exfalso;omega)|(have hT:True:=hg;clear hT hg)|skip)))
 | (refine zs ?_)
 | fail
 )
 refine au (G:=Nat×Int) (fun ((j,t):Nat×Int)=>j≤l.length∧t=pos l j) (fun ((j,t):Nat×Int)=>l.length - j) (fun ((j,t):Nat×Int)=>[(0,.c (LL l)),(3,A t),(4,A j)]) (fun ((j,t):Nat×Int)=>[]) 0 (0,0) ?_ (by refine ak rfl ?_ ?_<;>repeat (first|exact ai|exact ac|refine ae rfl rfl ?_|refine ab rfl rfl rfl ?_)) rfl ?_
 ·exact ⟨Nat.zero_le _,rfl⟩
 rintro ⟨j,t⟩ hI
 try dsimp only at hI
 try dsimp only
 obtain ⟨hj,ht⟩:=hI
 have hb:=eZ v hj
 by_cases hjl:j < l.length
 ·have hb2:=eZ v (j:=j+1) (by omega)
  rw [dJ,cJ hjl] at hb2
  repeat' (first
 | (((with_reducible apply aa);exact rfl)<;>intro hg<;>(first|(exact absurd hg (by decide))|((try simp only [qz,ge_iff_le,List.cons.injEq,and_true] at hg);first|(exact absurd trivial hg)|(exfalso;omega)|(have hT:True:=hg;clear hT hg)|skip)))
 | (refine zs ?_)
 | fail
 )
  refine ⟨(j+1,t+l[j].len),?_,?_,by refine ak rfl ?_ ?_<;>repeat (first|exact ai|exact ac|refine ae rfl rfl ?_|refine ab rfl rfl rfl ?_)⟩
  ·show _ - (j+1) < _ - j;omega
  ·exact ⟨by show j+1≤_;omega,by show t+l[j].len=_;rw [dJ,cJ hjl,ht]⟩
 ·obtain rfl:j=l.length:=by omega
  repeat' (first
 | (((with_reducible apply aa);exact rfl)<;>intro hg<;>(first|(exact absurd hg (by decide))|((try simp only [qz,ge_iff_le,List.cons.injEq,and_true] at hg);first|(exact absurd trivial hg)|(exfalso;omega)|(have hT:True:=hg;clear hT hg)|skip)))
 | (refine zs ?_)
 | fail
 )
  exact aB rfl ht
def volV (l:List Slc):Int:=cT (fun i=>fz l i * gk (cZ l i)) l.length
noncomputable def ey (l:List Slc):Int:=volV (iy l)
theorem area_V {s:Sec} (v:SecV s):0≤gk s∧gk s≤1440000:=by
 have:=(fO (f:=fun i=>wid (dH s i)) (c:=1200) (n:=s.rows.length) (fun i hi=>(wid_row v hi).2)) _ (Nat.le_refl _)
 have h2:=v.len
 unfold gk;omega
theorem areaS_ok {s:Sec} (h:bq s=0):areaS s=gk s:=by unfold areaS;rw [gL h]
theorem len_bd {l:List Slc} (v:SolV l) {i:Nat} (hi:i < l.length):1≤l[i].len∧l[i].len≤20000:=by
 have h1:=v.one i hi
 have h2:=eZ v (j:=i) (by omega)
 have h3:=eZ v (j:=i+1) (by omega)
 rw [dJ,cJ hi] at h3;omega
theorem vol_bd {l:List Slc} (v:SolV l) {i:Nat} (hi:i < l.length):0≤fz l i * gk (cZ l i)∧fz l i * gk (cZ l i)≤28800000000:=by
 have h1:=len_bd v hi
 have h2:=area_V (chk_is (v.chk i hi))
 rw [cJ hi,eL hi]
 exact mul_bd2 (m:=20000) (k:=1440000) ⟨by omega,by omega⟩ h2
theorem svolume_con (l:List Slc) (hn:l.length≤maxLen):bm Tryz.prog gl 26 [LL l] (I (ey l)):=by
 have hv:=iR (gl:=gl) l hn
 have v:=valL_V l
 unfold ey volV
 generalize iy l=u at *
 have hu:=v.n
 have hb:=fO (c:=28800000000) (n:=u.length) (fun i hi=>vol_bd v hi)
 refine ao Tryz.func26 rfl (by kernel_rfl) rfl ?_
 simp only [Tryz.ntmps26,Tryz.results26,am,ofC,aZ,List.map]
 repeat' (first
 | ((with_reducible apply ah);exact rfl;exact rfl;exact hv;exact rfl;exact rfl)
 | (refine zs ?_)
 | fail
 )
 refine au (G:=Nat×Int) (fun ((j,t):Nat×Int)=>j≤u.length∧t=cT (fun i=>fz u i * gk (cZ u i)) j) (fun ((j,t):Nat×Int)=>u.length - j) (fun ((j,t):Nat×Int)=>[(3,A t),(7,.c (LL u)),(8,A u.length),(9,A j)]) (fun ((j,t):Nat×Int)=>[]) 0 (0,0) ?_ (by refine ak rfl ?_ ?_<;>repeat (first|exact ai|exact ac|refine ae rfl rfl ?_|refine ab rfl rfl rfl ?_)) rfl ?_
 ·exact ⟨Nat.zero_le _,rfl⟩
 rintro ⟨j,t⟩ hI
 try dsimp only at hI
 try dsimp only
 obtain ⟨hj,ht⟩:=hI
 have hbj:=hb j hj
 rw [← ht] at hbj
 by_cases hjl:j < u.length
 ·have hx:=vol_bd v hjl
  rw [cJ hjl,eL hjl] at hx
  have ha:=area_con (gl:=gl) u[j].sec
  rw [areaS_ok (v.chk j hjl)] at ha
  have hf:aQ (u[j].len * gk u[j].sec):=by unfold aQ;omega
  have hf2:aQ (t+u[j].len * gk u[j].sec):=by unfold aQ;omega
  repeat' (first
 | ((with_reducible apply ah);exact rfl;exact rfl;exact ha;exact rfl;exact rfl)
 | (((with_reducible apply aa);exact rfl)<;>intro hg<;>(first|(exact absurd hg (by decide))|((try simp only [qz,ge_iff_le,List.cons.injEq,and_true] at hg);first|(exact absurd trivial hg)|(exfalso;omega)|(have hT:True:=hg;clear hT hg)|skip)))
 | (refine zs ?_)
 | fail
 )
  refine ⟨(j+1,t+u[j].len * gk u[j].sec),?_,?_,by refine ak rfl ?_ ?_<;>repeat (first|exact ai|exact ac|refine ae rfl rfl ?_|refine ab rfl rfl rfl ?_)⟩
  ·show _ - (j+1) < _ - j;omega
  ·exact ⟨by show j+1≤_;omega,by show t+_=cT _ j+fz u j * gk (cZ u j);rw [ht,cJ hjl,eL hjl]⟩
 ·obtain rfl:j=u.length:=by omega
  repeat' (first
 | (((with_reducible apply aa);exact rfl)<;>intro hg<;>(first|(exact absurd hg (by decide))|((try simp only [qz,ge_iff_le,List.cons.injEq,and_true] at hg);first|(exact absurd trivial hg)|(exfalso;omega)|(have hT:True:=hg;clear hT hg)|skip)))
 | (refine zs ?_)
 | fail
 )
  exact aB rfl ht
def extL (l:List Slc):List an:=(List.range l.length).map fun i=>(pos l i,pos l i+fz l i)
theorem extL_len (l:List Slc):(extL l).length=l.length:=by simp [extL]
theorem extL_get (l:List Slc) (i:Nat) (h:i < (extL l).length):(extL l)[i]=(pos l i,pos l i+fz l i):=by simp [extL]
theorem extents_con (l:List Slc) (v:SolV l):bm Tryz.prog gl 114 [LL l] (LS (extL l)):=by
 have hn:=v.n
 refine ao Tryz.func114 rfl (by kernel_rfl) rfl ?_
 simp only [Tryz.ntmps114,Tryz.results114,am,ofC,aZ,List.map]
 repeat' (first
 | ((with_reducible apply r_make (enc:=gw) (0,0) l.length);exact inferInstance;(iterate 5 exact rfl);omega;omega;exact rfl)
 | (refine zs ?_)
 | fail
 )
 refine au (G:=Nat×Int×List an) (fun ((j,t,s):Nat×Int×List an)=>j≤l.length∧t=pos l j∧s.length=l.length∧∀ i (h:i < s.length),i < j→s[i]=(pos l i,pos l i+fz l i)) (fun ((j,t,s):Nat×Int×List an)=>l.length - j) (fun ((j,t,s):Nat×Int×List an)=>[(3,.vec 0 l.length),(4,A t),(10,.c (LL l)),(11,A l.length),(12,A j)]) (fun ((j,t,s):Nat×Int×List an)=>[(0,some (.vec 35 2 (s.flatMap gw)))]) 1 (0,0,List.replicate l.length (0,0)) ?_ (by refine ak rfl ?_ ?_<;>repeat (first|exact ai|exact ac|refine ae rfl rfl ?_|refine ab rfl rfl rfl ?_)) rfl ?_
 ·exact ⟨Nat.zero_le _,rfl,by simp,fun _ _ h=>absurd h (Nat.not_lt_zero _)⟩
 rintro ⟨j,t,s⟩ hI
 try dsimp only at hI
 try dsimp only
 obtain ⟨hj,ht,hs,hall⟩:=hI
 have hb:=eZ v hj
 by_cases hjl:j < l.length
 ·have hb2:=eZ v (j:=j+1) (by omega)
  rw [dJ,cJ hjl] at hb2
  repeat' (first
 | ((with_reducible apply (fS (enc:=gw) (k:=j) (l:=s) (t,t+l[j].len)));exact rfl;exact rfl;exact inferInstance;exact hs;exact (by omega);iterate 4 exact rfl)
 | (((with_reducible apply aa);exact rfl)<;>intro hg<;>(first|(exact absurd hg (by decide))|((try simp only [qz,ge_iff_le,List.cons.injEq,and_true] at hg);first|(exact absurd trivial hg)|(exfalso;omega)|(have hT:True:=hg;clear hT hg)|skip)))
 | (refine zs ?_)
 | fail
 )
  refine ⟨(j+1,t+l[j].len,s.set j (t,t+l[j].len)),?_,?_,by refine ak rfl ?_ ?_<;>repeat (first|exact ai|exact ac|refine ae rfl rfl ?_|refine ab rfl rfl rfl ?_)⟩
  ·show _ - (j+1) < _ - j;omega
  ·refine ⟨by show j+1≤_;omega,by show t+l[j].len=_;rw [dJ,cJ hjl,ht],by simp [hs],fun i hi hij=>?_⟩
   by_cases he:i=j
   ·subst he;rw [List.getElem_set_self,ht,cJ hjl]
   ·have hij':i < j+1:=hij
    rw [List.getElem_set_ne (by omega)];exact hall i (by simpa using hi) (by omega)
 ·obtain rfl:j=l.length:=by omega
  have e:s=extL l:=List.ext_getElem (by rw [hs,extL_len]) (fun i h1 h2=>by rw [hall i h1 (by omega),extL_get])
  repeat' (first
 | (((with_reducible apply aa);exact rfl)<;>intro hg<;>(first|(exact absurd hg (by decide))|((try simp only [qz,ge_iff_le,List.cons.injEq,and_true] at hg);first|(exact absurd trivial hg)|(exfalso;omega)|(have hT:True:=hg;clear hT hg)|skip)))
 | (refine zs ?_)
 | fail
 )
  rw [← e]
  exact cL (.tmp rfl (bx rfl (by rw [av EncL.len,hs])))
end Go.Proofs.YtdndfncpglfdeaaGreatDoor.Ge

namespace Go.Proofs.YtdndfncpglfdeaaGreatDoor.Ge
set_option linter.unusedVariables false
set_option linter.unusedSimpArgs false
open Go.RowKit Go.Proofs.YtdndfncpglfdeaaGreatDoor.Ev
variable {gl:List (Nat×List CV)}
def ovZ (l:List Slc) (Z:an) (i:Nat):Int:=ov (pos l i,pos l i+fz l i) Z
def winV (l:List Slc) (X Y Z:an):Int:=cT (fun i=>ovZ l Z i * inV (cZ l i) X Y) l.length
noncomputable def bH (l:List Slc) (X Y Z:an):Int:=winV (iy l) X Y Z
theorem in_V {s:Sec} (v:SecV s) (X Y:an):0≤inV s X Y∧inV s X Y≤1440000:=by
 have:=(fO (c:=12000) (n:=s.rows.length) (fun i hi=>in_bd v X Y hi)) _ (Nat.le_refl _)
 have h2:=v.len
 unfold inV;omega
theorem inS_ok {s:Sec} (h:bq s=0) (X Y:an):inS s X Y=inV s X Y:=by unfold inS;rw [gL h]
theorem ovZ_bd {l:List Slc} (v:SolV l) {i:Nat} (hi:i < l.length) (Z:an):0≤ovZ l Z i∧ovZ l Z i≤l[i].len:=by
 have:=v.one i hi
 unfold ovZ ov;dsimp only;rw [cJ hi];omega
theorem win_bd {l:List Slc} (v:SolV l) (X Y Z:an) {i:Nat} (hi:i < l.length):0≤ovZ l Z i * inV (cZ l i) X Y∧ovZ l Z i * inV (cZ l i) X Y≤28800000000:=by
 have h1:=len_bd v hi
 have h2:=in_V (chk_is (v.chk i hi)) X Y
 have h3:=ovZ_bd v hi Z
 rw [eL hi]
 exact mul_bd2 (m:=20000) (k:=1440000) ⟨by omega,by omega⟩ h2
theorem ext_meet {l:List Slc} (v:SolV l) {j:Nat} (hj:j < l.length) (Z:an):bm Tryz.prog gl 113 [spV (di (pos l j,pos l j+fz l j) Z)] (I (ovZ l Z j)):=by
 have h1:=eZ v (j:=j) (by omega)
 have h2:=eZ v (j:=j+1) (by omega)
 have h3:=v.one j hj
 rw [dJ] at h2
 rw [← cJ hj] at h3
 exact len_meet (by dsimp only;omega)
theorem ez (l:List Slc) (hn:l.length≤maxLen) (X Y Z:an):bm Tryz.prog gl 64 [LL l,.agg [I X.1,I X.2,I Y.1,I Y.2,I Z.1,I Z.2]] (I (bH l X Y Z)):=by
 have hv:=iR (gl:=gl) l hn
 have v:=valL_V l
 unfold bH winV
 generalize iy l=u at *
 have hu:=v.n
 have hb:=fO (c:=28800000000) (n:=u.length) (fun i hi=>win_bd v X Y Z hi)
 have he:=extents_con (gl:=gl) u v
 have hel:=extL_len u
 refine ao Tryz.func64 rfl (by kernel_rfl) rfl ?_
 simp only [Tryz.ntmps64,Tryz.results64,am,ofC,aZ,List.map]
 repeat' (first
 | ((with_reducible apply ah);exact rfl;exact rfl;(first|exact hv|exact he);exact rfl;exact rfl)
 | (refine zs ?_)
 | fail
 )
 refine au (G:=Nat×Int) (fun ((j,t):Nat×Int)=>j≤u.length∧t=cT (fun i=>ovZ u Z i * inV (cZ u i) X Y) j) (fun ((j,t):Nat×Int)=>u.length - j) (fun ((j,t):Nat×Int)=>[(0,.c (LL u)),(3,.ptr 0 0),(5,A t),(12,.c (LS (extL u))),(13,A (extL u).length),(14,A j)]) (fun ((j,t):Nat×Int)=>[(0,some (.cells 115 [A X.1,A X.2,A Y.1,A Y.2,A Z.1,A Z.2]))]) 1 (0,0) ?_ (by refine ak rfl ?_ ?_<;>repeat (first|exact ai|exact ac|refine ae rfl rfl ?_|refine ab rfl rfl rfl ?_)) rfl ?_
 ·exact ⟨Nat.zero_le _,rfl⟩
 rintro ⟨j,t⟩ hI
 try dsimp only at hI
 try dsimp only
 obtain ⟨hj,ht⟩:=hI
 have hbj:=hb j hj
 rw [← ht] at hbj
 by_cases hjl:j < u.length
 ·have hx:=win_bd v X Y Z hjl
  rw [eL hjl] at hx
  have hg0:=extL_get u j (by omega)
  have h1:=iu (gl:=gl) ((extL u)[j]'(by omega)).1 ((extL u)[j]'(by omega)).2 Z.1 Z.2
  have h2:=ext_meet (gl:=gl) v hjl Z
  rw [← hg0] at h2
  have h3:=within_con (gl:=gl) u[j].sec X Y
  rw [inS_ok (v.chk j hjl)] at h3
  have hoz:=ovZ_bd v hjl Z
  have hf:aQ (ovZ u Z j * inV u[j].sec X Y):=by unfold aQ;omega
  have hf2:aQ (t+ovZ u Z j * inV u[j].sec X Y):=by unfold aQ;omega
  repeat' (first
 | ((with_reducible apply ah);exact rfl;exact rfl;(first|exact h1|exact h2|exact h3);exact rfl;exact rfl)
 | (((with_reducible apply aa);exact rfl)<;>intro hg<;>(first|(exact absurd hg (by decide))|((try simp only [qz,ge_iff_le,List.cons.injEq,and_true] at hg);first|(exact absurd trivial hg)|(exfalso;omega)|(have hT:True:=hg;clear hT hg)|skip)))
 | (refine zs ?_)
 | fail
 )
  ·skip
   refine ⟨(j+1,t+ovZ u Z j * inV u[j].sec X Y),?_,?_,by refine ak rfl ?_ ?_<;>repeat (first|exact ai|exact ac|refine ae rfl rfl ?_|refine ab rfl rfl rfl ?_)⟩
   ·show _ - (j+1) < _ - j;omega
   ·exact ⟨by show j+1≤_;omega,by show t+_=cT _ j+ovZ u Z j * inV (cZ u j) X Y;rw [ht,eL hjl]⟩
  ·skip
   refine ⟨(j+1,t),?_,?_,by refine ak rfl ?_ ?_<;>repeat (first|exact ai|exact ac|refine ae rfl rfl ?_|refine ab rfl rfl rfl ?_)⟩
   ·show _ - (j+1) < _ - j;omega
   ·refine ⟨by show j+1≤_;omega,?_⟩
    show t=cT _ j+ovZ u Z j * inV (cZ u j) X Y
    rw [show ovZ u Z j=0 by omega,Int.zero_mul,ht];omega
 ·obtain rfl:j=u.length:=by omega
  repeat' (first
 | (((with_reducible apply aa);exact rfl)<;>intro hg<;>(first|(exact absurd hg (by decide))|((try simp only [qz,ge_iff_le,List.cons.injEq,and_true] at hg);first|(exact absurd trivial hg)|(exfalso;omega)|(have hT:True:=hg;clear hT hg)|skip)))
 | (refine zs ?_)
 | fail
 )
  exact aB rfl ht
theorem sumN_zero {f:Nat→Int}:∀ {n:Nat},(∀ i,i < n→f i=0)→cT f n=0
 | 0,_=>rfl
 | n+1,h=>by
  unfold cT
  rw [sumN_zero (fun i hi=>h i (by omega)),h n (by omega)];rfl
def cutN (l:List Slc) (Z:an):Nat→List Slc
 | 0=>[]
 | j+1=>if 0 < ovZ l Z j then cutN l Z j++[⟨ovZ l Z j,cZ l j⟩] else cutN l Z j
end Go.Proofs.YtdndfncpglfdeaaGreatDoor.Ge
