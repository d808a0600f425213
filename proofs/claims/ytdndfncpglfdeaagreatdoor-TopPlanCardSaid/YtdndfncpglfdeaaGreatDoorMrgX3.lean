/- PJ PK QA QB: texts laid together. -/
import Derived.Test.YtdndfncpglfdeaaGreatDoorMrgX2
import Derived.Test.YtdndfncpglfdeaaGreatDoorMrgG2
import Derived.Test.YtdndfncpglfdeaaGreatDoorMrgC1
import Derived.Test.YtdndfncpglfdeaaGreatDoorMrgS
set_option maxRecDepth 100000
set_option maxHeartbeats 64000000

namespace Go.Proofs.YtdndfncpglfdeaaGreatDoor.Tp
set_option linter.unusedVariables false
set_option linter.unusedSimpArgs false
open Go.RowKit Go.Proofs.YtdndfncpglfdeaaGreatDoor.Ev
open Go.Proofs.YtdndfncpglfdeaaGreatDoor.Cu (I LI ce fP)
open Go.Proofs.YtdndfncpglfdeaaGreatDoor.Ge (an Slc Dfc dfC LL LD fz cZ pos aw aX inS cI bH)
variable {gl:List (Nat×List CV)}
def pr0:Pr:=⟨ByteArray.empty,0,0,0,0,[],[]⟩
def fF (c:List Pr) (i:Nat):Pr:=c.getD i pr0
theorem fB {c:List Pr} {i:Nat} (h:i < c.length):fF c i=c[i]:=by unfold fF;rw [List.getD_eq_getElem?_getD,List.getElem?_eq_getElem h];rfl
def sz1 (c:List Pr) (h:Int) (i:Nat):List (Int×Int) :=
 if (aW (fF c i)).1=h then [((aW (fF c i)).2,(i:Int))] else if (aW (fF c i)).2=h then [((aW (fF c i)).1,(i:Int))] else []
def szN (c:List Pr) (h:Int):Nat→List (Int×Int)
 | 0=>[]
 | i+1=>szN c h i++sz1 c h i
def cB (c:List Pr) (h:Int):List (Int×Int):=szN c h c.length
theorem sz1_le (c:List Pr) (h:Int) (i:Nat):(sz1 c h i).length≤1:=by
 unfold sz1;split
 ·simp
 ·split<;>simp
theorem szN_le (c:List Pr) (h:Int):∀ i,(szN c h i).length≤i
 | 0=>Nat.le_refl _
 | i+1=>by
  have h1:=szN_le c h i
  have h2:=sz1_le c h i
  rw [szN,List.length_append];omega
theorem cU {c:List Pr} (h:prE c=0):c.length≤16:=by
 unfold prE at h
 split at h
 ·cases h
 ·omega
theorem prG_all:∀ (n:Nat) (c:List Pr) (j:Nat),j+n=c.length→prG (c.take j) (c.drop j)=0→∀ i (h:i < c.length),j≤i→dY c[i]=0∧¬ Ge.eT c[i].name=false
 | 0,c,j,hn,_,i,hi,hji=>by omega
 | n+1,c,j,hn,h,i,hi,hji=>by
  have hj:j < c.length:=by omega
  have h1:¬ Ge.eT c[j].name=false:=fun e=>by rw [prG_name hj e] at h;cases h
  have h2:¬ ((c.take j).any fun q=>eO q c[j].name)=true:=fun e=>by rw [prG_dup hj h1 e] at h;cases h
  have h3:dY c[j]=0:=Classical.byContradiction fun e=>e (by rw [iU hj h1 h2 e] at h;exact h)
  by_cases he:i=j
  ·subst he;exact ⟨h3,h1⟩
  ·rw [prG_next hj h1 h2 h3] at h
   exact prG_all n c (j+1) (by omega) h i hi (by omega)
theorem prE_all {c:List Pr} (h:prE c=0):∀ i (hi:i < c.length),prE [c[i]]=0:=by
 intro i hi
 have hl:=cU h
 unfold prE at h
 rw [if_neg (by omega)] at h
 obtain ⟨h1,h2⟩:=prG_all c.length c 0 (by omega) h i hi (Nat.zero_le _)
 unfold prE
 rw [if_neg (show ¬ [c[i]].length > 16 from (by decide:¬ 1 > 16))]
 have:=prG_next (l:=[c[i]]) (j:=0) Nat.one_pos h2 (by simp) h1
 exact this
theorem prE_V {c:List Pr} (h:prE c=0) {i:Nat} (hi:i < c.length):PrV (fF c i):=by
 rw [fB hi];exact numsE_ok (prE_one (prE_all h i hi))
theorem sz_mem {c:List Pr} (hc:prE c=0) {h:Int}:∀ (n:Nat),n≤c.length→∀ x∈szN c h n,∃ i:Nat,i < c.length∧x.2=(i:Int)∧5≤x.1∧x.1≤600∧((x.1=(aW (fF c i)).1∧h=(aW (fF c i)).2)∨(x.1=(aW (fF c i)).2∧h=(aW (fF c i)).1))
 | 0,_,x,hx=>by cases hx
 | n+1,hn,x,hx=>by
  rw [szN] at hx
  rcases List.mem_append.1 hx with hx|hx
  ·exact sz_mem hc n (by omega) x hx
  ·have pv:=(prE_V hc (i:=n) (by omega)).gs
   unfold sz1 at hx
   split at hx
   ·rename_i e
    rw [List.mem_singleton] at hx;subst hx
    exact ⟨n,by omega,rfl,by dsimp only;omega,by dsimp only;omega,.inr ⟨rfl,e.symm⟩⟩
   ·split at hx
    ·rename_i e
     rw [List.mem_singleton] at hx;subst hx
     exact ⟨n,by omega,rfl,by dsimp only;omega,by dsimp only;omega,.inl ⟨rfl,e.symm⟩⟩
    ·cases hx
theorem esizes_con (c:List Pr) (hc:prE c=0) (h:Int):bm Tryz.prog gl 103 [fj c,I h] (.tup [LI ((cB c h).map Prod.fst),LI ((cB c h).map Prod.snd)]):=by
 have c1:=fc (gl:=gl) c
 rw [hc] at c1
 have hlen:=cU hc
 refine ao Tryz.func103 rfl (by kernel_rfl) rfl ?_
 simp only [Tryz.ntmps103,Tryz.results103,am,ofC,aZ,List.map]
 repeat' (first
 | ((with_reducible apply (ah (f:=50)));exact rfl;exact rfl;exact c1;exact rfl;exact rfl)
 | (((with_reducible apply aa);exact rfl)<;>intro hg<;>(first|(exact absurd hg (by decide))|((try simp only [qz,ge_iff_le,List.cons.injEq,and_true] at hg);first|(exact absurd trivial hg)|(exfalso;omega)|(have hT:True:=hg;clear hT hg)|skip)))
 | (refine zs ?_)
 | fail
 )
 refine bo 6 3 1 rfl rfl ?_
 refine bo 7 3 1 rfl rfl ?_
 refine au (G:=Nat×List Int×List Int×Nat) (fun ((j,ws,ps,n):Nat×List Int×List Int×Nat)=>j≤c.length∧ws=(szN c h j).map Prod.fst∧ps=(szN c h j).map Prod.snd∧(szN c h j).length=n) (fun ((j,ws,ps,n):Nat×List Int×List Int×Nat)=>c.length - j) (fun ((j,ws,ps,n):Nat×List Int×List Int×Nat)=>[(1,A h),(6,.vec 0 n),(7,.vec 1 n),(15,.c (fj c)),(16,A c.length),(17,A j)]) (fun ((j,ws,ps,n):Nat×List Int×List Int×Nat)=>[(1,some (.vec 3 1 (ps.flatMap ce))),(0,some (.vec 3 1 (ws.flatMap ce)))]) 2 (0,[],[],0) ?_ (by refine ak rfl ?_ ?_<;>repeat (first|exact ai|exact ac|refine ae rfl rfl ?_|refine ab rfl rfl rfl ?_)) rfl ?_
 ·exact ⟨Nat.zero_le _,rfl,rfl,rfl⟩
 rintro ⟨j,ws,ps,n⟩ hI
 try dsimp only at hI
 try dsimp only
 obtain ⟨hj,hw,hp,hn⟩:=hI
 have hwl:ws.length=n:=by rw [hw,List.length_map,hn]
 have hpl:ps.length=n:=by rw [hp,List.length_map,hn]
 have hle:=szN_le c h j
 by_cases hjl:j < c.length
 ·have c2:=hO (gl:=gl) c[j]
  have hd:=fB hjl
  have e:szN c h (j+1)=szN c h j++sz1 c h j:=rfl
  unfold sz1 at e
  rw [hd] at e
  obtain ⟨⟨g1,g2⟩,hg⟩:∃ g:Int×Int,aW c[j]=g:=⟨_,rfl⟩
  rw [hg] at c2 e
  dsimp only at c2 e
  by_cases h1:g1=h
  ·rw [if_pos h1] at e
   repeat' (first
 | ((with_reducible apply (ah (f:=99)));exact rfl;exact rfl;exact c2;exact rfl;exact rfl)
 | ((with_reducible apply (dq (enc:=ce) (x0:=g2)));exact rfl;exact rfl;exact inferInstance;exact hwl;(iterate 3 exact rfl);exact (by omega);exact (by omega);exact rfl)
 | ((with_reducible apply (dq (enc:=ce) (x0:=(j:Int))));exact rfl;exact rfl;exact inferInstance;exact hpl;(iterate 3 exact rfl);exact (by omega);exact (by omega);exact rfl)
 | (((with_reducible apply aa);exact rfl)<;>intro hg<;>(first|(exact absurd hg (by decide))|((try simp only [qz,ge_iff_le,List.cons.injEq,and_true] at hg);first|(exact absurd trivial hg)|(exfalso;omega)|(have hT:True:=hg;clear hT hg)|skip)))
 | (refine zs ?_)
 | fail
 )
   refine ⟨(j+1,ws++[g2],ps++[(j:Int)],n+1),?_,?_,by refine ak rfl ?_ ?_<;>repeat (first|exact ai|exact ac|refine ae rfl rfl ?_|refine ab rfl rfl rfl ?_)⟩
   ·show c.length - (j+1) < c.length - j;omega
   ·exact ⟨by show j+1≤_;omega,by show ws++_=_;rw [e,hw];simp,by show ps++_=_;rw [e,hp];simp,by show (szN c h (j+1)).length=_;rw [e];simp [hn]⟩
  ·rw [if_neg h1] at e
   by_cases h2:g2=h
   ·rw [if_pos h2] at e
    repeat' (first
 | ((with_reducible apply (ah (f:=99)));exact rfl;exact rfl;exact c2;exact rfl;exact rfl)
 | ((with_reducible apply (dq (enc:=ce) (x0:=g1)));exact rfl;exact rfl;exact inferInstance;exact hwl;(iterate 3 exact rfl);exact (by omega);exact (by omega);exact rfl)
 | ((with_reducible apply (dq (enc:=ce) (x0:=(j:Int))));exact rfl;exact rfl;exact inferInstance;exact hpl;(iterate 3 exact rfl);exact (by omega);exact (by omega);exact rfl)
 | (((with_reducible apply aa);exact rfl)<;>intro hg<;>(first|(exact absurd hg (by decide))|((try simp only [qz,ge_iff_le,List.cons.injEq,and_true] at hg);first|(exact absurd trivial hg)|(exfalso;omega)|(have hT:True:=hg;clear hT hg)|skip)))
 | (refine zs ?_)
 | fail
 )
    refine ⟨(j+1,ws++[g1],ps++[(j:Int)],n+1),?_,?_,by refine ak rfl ?_ ?_<;>repeat (first|exact ai|exact ac|refine ae rfl rfl ?_|refine ab rfl rfl rfl ?_)⟩
    ·show c.length - (j+1) < c.length - j;omega
    ·exact ⟨by show j+1≤_;omega,by show ws++_=_;rw [e,hw];simp,by show ps++_=_;rw [e,hp];simp,by show (szN c h (j+1)).length=_;rw [e];simp [hn]⟩
   ·rw [if_neg h2,List.append_nil] at e
    repeat' (first
 | ((with_reducible apply (ah (f:=99)));exact rfl;exact rfl;exact c2;exact rfl;exact rfl)
 | (((with_reducible apply aa);exact rfl)<;>intro hg<;>(first|(exact absurd hg (by decide))|((try simp only [qz,ge_iff_le,List.cons.injEq,and_true] at hg);first|(exact absurd trivial hg)|(exfalso;omega)|(have hT:True:=hg;clear hT hg)|skip)))
 | (refine zs ?_)
 | fail
 )
    refine ⟨(j+1,ws,ps,n),?_,?_,by refine ak rfl ?_ ?_<;>repeat (first|exact ai|exact ac|refine ae rfl rfl ?_|refine ab rfl rfl rfl ?_)⟩
    ·show c.length - (j+1) < c.length - j;omega
    ·exact ⟨by show j+1≤_;omega,by show ws=_;rw [e,hw],by show ps=_;rw [e,hp],by show (szN c h (j+1)).length=_;rw [e];exact hn⟩
 ·obtain rfl:j=c.length:=by omega
  have e1:(cB c h).map Prod.fst=ws:=hw.symm
  have e2:(cB c h).map Prod.snd=ps:=hp.symm
  rw [e1,e2]
  repeat' (first
 | (((with_reducible apply aa);exact rfl)<;>intro hg<;>(first|(exact absurd hg (by decide))|((try simp only [qz,ge_iff_le,List.cons.injEq,and_true] at hg);first|(exact absurd trivial hg)|(exfalso;omega)|(have hT:True:=hg;clear hT hg)|skip)))
 | (refine zs ?_)
 | fail
 )
  all_goals exact bJ (.cons (.tmp rfl (bx rfl (by rw [av EncL.len,hwl]))) (.cons (.tmp rfl (bx rfl (by rw [av EncL.len,hpl]))) .nil))
theorem epart_con (X Y:an) (p q:Int) (h:aQ (X.1+p)∧aQ (X.1+q)):bm Tryz.prog gl 104 [.agg (cQ X Y),I p,I q] (.agg (cQ (X.1+p,X.1+q) Y)):=by
 obtain ⟨h1,h2⟩:=h
 refine ao Tryz.func104 rfl (by kernel_rfl) rfl ?_
 simp only [Tryz.ntmps104,Tryz.results104,am,ofC,aZ,List.map]
 repeat' (first
 | (refine zs ?_)
 | fail
 )
 all_goals exact cL (.cell_a inferInstance rfl rfl rfl rfl (al ap (al ap (al ap (al ap bj)))))
theorem fo (l:List Slc) (hn:l.length≤maxLen) (X Y Z:an):bm Tryz.prog gl 143 [LL l,.agg (cQ X Y),.agg [I Z.1,I Z.2]] (I (bH l X Y Z)):=by
 have c1:=Ge.ez (gl:=gl) l hn X Y Z
 generalize bH l X Y Z=v at *
 refine ao Tryz.func143 rfl (by kernel_rfl) rfl ?_
 simp only [Tryz.ntmps143,Tryz.results143,am,ofC,aZ,List.map]
 repeat' (first
 | ((with_reducible apply (ah (f:=64)));exact rfl;exact rfl;exact c1;exact rfl;exact rfl)
 | (refine zs ?_)
 | fail
 )
 all_goals exact aB rfl rfl
theorem win_nn (l:List Slc) (X Y Z:an):0≤bH l X Y Z:=(Ge.cD l X Y Z).1
noncomputable def trimS (l:List Slc) (X Y:an) (s:Sw) (z:an):Int:=bH l X Y (max 0 (z.1 - s.trim),z.1)+bH l X Y (z.2,min (z.2+s.trim) (aw l))
noncomputable def eR (l:List Slc) (d:List Dfc) (p:Pr) (X Y:an) (s:Sw) (r:Rt):Int :=
 if (wbS l d p X Y s.step r.fine).2.2=true then
  1000000 * (wbS l d p X Y s.step r.fine).2.1+r.dust * trimS l X Y s (wbS l d p X Y s.step r.fine).1+r.chip * (bH l X Y (0,aw l) - bH l X Y (wbS l d p X Y s.step r.fine).1 - trimS l X Y s (wbS l d p X Y s.step r.fine).1)
 else -1
theorem within_get {z:an} {n:Int} (h:eG z n=true):0≤z.1∧z.1 < z.2∧z.2≤n:=by
 unfold eG at h;simp at h;omega
theorem trim_bd {l:List Slc} (hc:aX l=0) (X Y:an) {s:Sw} (hs:0≤s.trim) {z:an} (hz:eG z (aw l)=true) :
  0≤trimS l X Y s z∧0≤bH l X Y z∧bH l X Y z+trimS l X Y s z≤bH l X Y (0,aw l):=by
 obtain ⟨h1,h2,h3⟩:=within_get hz
 have n1:=win_nn l X Y (max 0 (z.1 - s.trim),z.1)
 have n2:=win_nn l X Y (z.2,min (z.2+s.trim) (aw l))
 have n3:=win_nn l X Y z
 have n4:=win_nn l X Y (0,max 0 (z.1 - s.trim))
 have n5:=win_nn l X Y (min (z.2+s.trim) (aw l),aw l)
 unfold trimS
 refine ⟨by omega,n3,?_⟩
 generalize aw l=L at *
 have e1:∀ a b c:Int,a≤b→b≤c→bH l X Y (a,b)+bH l X Y (b,c)=bH l X Y (a,c):=fun a b c h1 h2=>Ge.win_splitZ (Ge.iy l) X Y h1 h2
 have s1:=e1 0 (max 0 (z.1 - s.trim)) z.1 (by omega) (by omega)
 have s2:=e1 0 z.1 z.2 (by omega) (by omega)
 have s3:=e1 z.2 (min (z.2+s.trim) L) L (by omega) (by omega)
 have s4:=e1 0 z.2 L (by omega) (by omega)
 rw [show bH l X Y z=bH l X Y (z.1,z.2) from rfl]
 omega
theorem d8 {a b:Int} {k m:Int} (ha:0≤a∧a≤k) (hb:0≤b∧b≤m):0≤a * b∧a * b≤k * m:=Ge.mul_bd2 ha hb
theorem gain_con {l:List Slc} {d:List Dfc} {p:Pr} {X Y:an} (q:Wq l d p X Y) (s:Sw) (r:Rt) (hs:SwOk s) (hr:RtOk r) :
  bm Tryz.prog gl 142 [LL l,LD d,.agg (prL p),.agg (cQ X Y),swC s,rtC r] (I (eR l d p X Y s r)):=by
 obtain ⟨s1,s2,s3,s4,s5,s6,s7,s8⟩:=hs
 obtain ⟨r1,r2,r3,r4,r5,r6⟩:=hr
 have hln:l.length≤maxLen:=Nat.le_trans (Ge.sol_V q.sol).n (by decide)
 have c1:=wbest_con (gl:=gl) q s.step r.fine ⟨s7,s8⟩ ⟨r5,r6⟩
 have hok:=wb_ok (step:=s.step) (fine:=r.fine) q r5
 have htr:=fun z=>trim_bd q.sol X Y s3 (z:=z)
 unfold eR
 obtain ⟨⟨⟨z1,z2⟩,w,ok⟩,hb⟩:∃ b:WB,wbS l d p X Y s.step r.fine=b:=⟨_,rfl⟩
 rw [hb] at c1 hok ⊢
 dsimp only at c1 hok ⊢
 cases ok with
 | false =>
  rw [if_neg (by decide)]
  refine ao Tryz.func142 rfl (by kernel_rfl) rfl ?_
  simp only [Tryz.ntmps142,Tryz.results142,am,ofC,aZ,List.map,prL,swL,rtL]
  repeat' (first
 | ((with_reducible apply (ah (f:=41)));exact rfl;exact rfl;exact c1;exact rfl;exact rfl)
 | (((with_reducible apply aa);exact rfl)<;>intro hg<;>(first|(exact absurd hg (by decide))|((try simp only [qz,ge_iff_le,List.cons.injEq,and_true] at hg);first|(exact absurd trivial hg)|(exfalso;omega)|(have hT:True:=hg;clear hT hg)|skip)))
 | (refine zs ?_)
 | fail
 )
  all_goals exact aB rfl rfl
 | true =>
 rw [if_pos rfl]
 obtain ⟨hz,hw1,hw2⟩:=hok rfl
 obtain ⟨t1,t2,t3⟩:=htr _ hz
 obtain ⟨g1,g2,g3⟩:=within_get hz
 dsimp only at g1 g2 g3
 have hll:=len_le q.sol
 have c2:=Ge.fu (gl:=gl) l hln
 have c3:=fo (gl:=gl) l hln X Y (0,aw l)
 have c4:=fo (gl:=gl) l hln X Y (z1,z2)
 have c5:=fo (gl:=gl) l hln X Y (max 0 (z1 - s.trim),z1)
 have c6:=fo (gl:=gl) l hln X Y (z2,min (z2+s.trim) (aw l))
 have b1:=Ge.cD l X Y (0,aw l)
 have b2:=win_nn l X Y (max 0 (z1 - s.trim),z1)
 have b3:=win_nn l X Y (z2,min (z2+s.trim) (aw l))
 unfold trimS at t1 t3 ⊢
 dsimp only at t1 t3 c3 c4 c5 c6 ⊢
 generalize bH l X Y (max 0 (z1 - s.trim),z1)=v1 at *
 generalize bH l X Y (z2,min (z2+s.trim) (aw l))=v2 at *
 generalize bH l X Y (z1,z2)=v3 at *
 generalize bH l X Y (0,aw l)=v4 at *
 generalize aw l=L at *
 have m1:=d8 ⟨r3,r4⟩ (b:=v1+v2) ⟨t1,(by omega:v1+v2≤700000000000)⟩
 have m2:=d8 ⟨r1,r2⟩ (b:=v4 - v3 - (v1+v2)) ⟨by omega,(by omega:v4 - v3 - (v1+v2)≤700000000000)⟩
 generalize hd1:r.dust * (v1+v2)=d1 at *
 generalize hd2:r.chip * (v4 - v3 - (v1+v2))=d2 at *
 have f1:aQ (r.dust * (v1+v2)):=by rw [hd1];unfold aQ;omega
 have f2:aQ (r.chip * (v4 - v3 - (v1+v2))):=by rw [hd2];unfold aQ;omega
 refine ao Tryz.func142 rfl (by kernel_rfl) rfl ?_
 simp only [Tryz.ntmps142,Tryz.results142,am,ofC,aZ,List.map,prL,swL,rtL]
 repeat' (first
 | ((with_reducible apply (ah (f:=41)));exact rfl;exact rfl;exact c1;exact rfl;exact rfl)
 | ((with_reducible apply (ah (f:=65)));exact rfl;exact rfl;exact c2;exact rfl;exact rfl)
 | ((with_reducible apply (ah (f:=143)));exact rfl;exact rfl;(first|exact c3|exact c4|exact c5|exact c6);exact rfl;exact rfl)
 | (((with_reducible apply aa);exact rfl)<;>intro hg<;>(first|(exact absurd hg (by decide))|((try simp only [qz,ge_iff_le,List.cons.injEq,and_true] at hg);first|(exact absurd trivial hg)|(exfalso;omega)|(have hT:True:=hg;clear hT hg)|skip)))
 | (refine zs ?_)
 | fail
 )
 all_goals exact aB rfl (by rw [hd1,hd2])
theorem gain_bd {l:List Slc} {d:List Dfc} {p:Pr} {X Y:an} (q:Wq l d p X Y) {s:Sw} {r:Rt} (hs:SwOk s) (hr:RtOk r) :
  ((wbS l d p X Y s.step r.fine).2.2=false∧eR l d p X Y s r=-1)∨((wbS l d p X Y s.step r.fine).2.2=true∧0≤eR l d p X Y s r∧eR l d p X Y s r≤701000000000000):=by
 obtain ⟨s1,s2,s3,s4,s5,s6,s7,s8⟩:=hs
 obtain ⟨r1,r2,r3,r4,r5,r6⟩:=hr
 have hok:=wb_ok (step:=s.step) (fine:=r.fine) q r5
 have htr:=fun z=>trim_bd q.sol X Y s3 (z:=z)
 have b1:=Ge.cD l X Y (0,aw l)
 unfold eR
 cases h:(wbS l d p X Y s.step r.fine).2.2 with
 | false=>exact .inl ⟨rfl,if_neg (by decide)⟩
 | true =>
  refine .inr ⟨rfl,?_⟩
  rw [if_pos rfl]
  obtain ⟨hz,hw1,hw2⟩:=hok h
  obtain ⟨t1,t2,t3⟩:=htr _ hz
  generalize trimS l X Y s (wbS l d p X Y s.step r.fine).1=t at *
  generalize bH l X Y (wbS l d p X Y s.step r.fine).1=v3 at *
  generalize bH l X Y (0,aw l)=v4 at *
  generalize (wbS l d p X Y s.step r.fine).2.1=w at *
  have m1:r.dust * t≤1000 * t:=Int.mul_le_mul_of_nonneg_right r4 t1
  have m1':=Int.mul_nonneg r3 t1
  have m2:r.chip * (v4 - v3 - t)≤1000 * (v4 - v3 - t):=Int.mul_le_mul_of_nonneg_right r2 (by omega)
  have m2':=Int.mul_nonneg r1 (show 0≤v4 - v3 - t by omega)
  generalize r.dust * t=d1 at *
  generalize r.chip * (v4 - v3 - t)=d2 at *
  omega
end Go.Proofs.YtdndfncpglfdeaaGreatDoor.Tp

namespace Go.Proofs.YtdndfncpglfdeaaGreatDoor.Tp
set_option linter.unusedVariables false
set_option linter.unusedSimpArgs false
open Go.RowKit Go.Proofs.YtdndfncpglfdeaaGreatDoor.Ev
open Go.Proofs.YtdndfncpglfdeaaGreatDoor.Cu (I LI ce fP)
open Go.Proofs.YtdndfncpglfdeaaGreatDoor.Ge (an Slc Dfc dfC LL LD fz cZ pos aw aX inS cI bH)
variable {gl:List (Nat×List CV)}
structure Hy (l:List Slc) (d:List Dfc) (c:List Pr) (s:Sw) (r:Rt):Prop where
 sol:aX l=0
 def':cI d=0
 pro:prE c=0
 sw:SwOk s
 rt:RtOk r
theorem Hy.ln {l:List Slc} {d:List Dfc} {c:List Pr} {s:Sw} {r:Rt} (h:Hy l d c s r):l.length≤maxLen:=Nat.le_trans (Ge.sol_V h.sol).n (by decide)
theorem Hy.dn {l:List Slc} {d:List Dfc} {c:List Pr} {s:Sw} {r:Rt} (h:Hy l d c s r):d.length≤64:=Classical.byContradiction fun hc=>by have:=Ge.def_64 (l:=d) (by omega);rw [h.def'] at this;cases this
theorem Hy.wq {l:List Slc} {d:List Dfc} {c:List Pr} {s:Sw} {r:Rt} (h:Hy l d c s r) {i:Nat} (hi:i < c.length) {X Y:an} (hX:aJ X) (hY:aJ Y) (hs:(X.2 - X.1=(aW (fF c i)).1∧Y.2 - Y.1=(aW (fF c i)).2)∨(X.2 - X.1=(aW (fF c i)).2∧Y.2 - Y.1=(aW (fF c i)).1)):Wq l d (fF c i) X Y :=
 ⟨h.sol,h.def',by rw [fB hi];exact prE_all h.pro i hi,hX,hY,hs⟩
instance:ArrB Tryz.prog 181 [(0,1),(1,1),(2,1),(3,1)] [.int .i64 0,.int .i64 0,.int .i64 0,.int .i64 0]:=⟨by kernel_rfl⟩
instance:ArrT Tryz.prog 181 4:=⟨by decide +kernel⟩
theorem echeck_con {l:List Slc} {d:List Dfc} {c:List Pr} {s:Sw} {r:Rt} (h:Hy l d c s r) (X Y:an) (hX:aJ X) (hY:aJ Y) :
  bm Tryz.prog gl 141 [LL l,LD d,fj c,.agg (cQ X Y),swC s,rtC r] (I 0):=by
 have c1:=Ge.eX (gl:=gl) l h.ln
 have c2:=Ge.iP (gl:=gl) d (Nat.le_trans h.dn (by decide))
 have c3:=fc (gl:=gl) c
 have c4:=wcheck_con (gl:=gl) s r
 rw [h.sol] at c1
 rw [h.def'] at c2
 rw [h.pro] at c3
 rw [go.2 ⟨h.sw,h.rt⟩] at c4
 obtain ⟨x1,x2,x3⟩:=hX
 obtain ⟨y1,y2,y3⟩:=hY
 refine ao Tryz.func141 rfl (by kernel_rfl) rfl ?_
 simp only [Tryz.ntmps141,Tryz.results141,am,ofC,aZ,List.map,swL,rtL]
 repeat' (first
 | ((with_reducible apply (ah (f:=48)));exact rfl;exact rfl;exact c1;exact rfl;exact rfl)
 | ((with_reducible apply (ah (f:=49)));exact rfl;exact rfl;exact c2;exact rfl;exact rfl)
 | ((with_reducible apply (ah (f:=50)));exact rfl;exact rfl;exact c3;exact rfl;exact rfl)
 | ((with_reducible apply (ah (f:=51)));exact rfl;exact rfl;exact c4;exact rfl;exact rfl)
 | ((with_reducible apply (dL (out:=[A X.1,A X.2,A Y.1,A Y.2])));iterate 3 exact rfl)
 | ((first|((with_reducible apply aj);iterate 4 exact rfl)|((with_reducible apply aa);exact rfl))<;>intro hg<;>(first|(exact absurd hg (by decide))|((try simp only [qz,ge_iff_le,List.cons.injEq,and_true] at hg);first|(exact absurd trivial hg)|(exfalso;omega)|(have hT:True:=hg;clear hT hg)|skip)))
 | (refine zs ?_)
 | fail
 )
 refine au (G:=Nat) (fun (k:Nat)=>k≤4) (fun (k:Nat)=>4 - k) (fun (k:Nat)=>[(68,.agg [A X.1,A X.2,A Y.1,A Y.2]),(69,A k),(12,A 0)]) (fun (k:Nat)=>[]) 3 0 ?_ (by refine ak rfl ?_ ?_<;>repeat (first|exact ai|exact ac|refine ae rfl rfl ?_|refine ab rfl rfl rfl ?_)) rfl ?_
 ·exact Nat.zero_le _
 rintro k hI
 try dsimp only at hI
 try dsimp only
 have hc:k=0∨k=1∨k=2∨k=3∨k=4:=by omega
 rcases hc with rfl|rfl|rfl|rfl|rfl
 ·skip
  repeat' (first
 | ((with_reducible apply (dh 0));(iterate 3 exact rfl);decide;exact rfl;exact rfl)
 | ((first|((with_reducible apply aj);iterate 4 exact rfl)|((with_reducible apply aa);exact rfl))<;>intro hg<;>(first|(exact absurd hg (by decide))|((try simp only [qz,ge_iff_le,List.cons.injEq,and_true] at hg);first|(exact absurd trivial hg)|(exfalso;omega)|(have hT:True:=hg;clear hT hg)|skip)))
 | (refine zs ?_)
 | fail
 )
  refine ⟨1,?_,?_,by refine ak rfl ?_ ?_<;>repeat (first|exact ai|exact ac|refine ae rfl rfl ?_|refine ab rfl rfl rfl ?_)⟩
  ·decide
  ·decide
 ·skip
  repeat' (first
 | ((with_reducible apply (dh 1));(iterate 3 exact rfl);decide;exact rfl;exact rfl)
 | ((first|((with_reducible apply aj);iterate 4 exact rfl)|((with_reducible apply aa);exact rfl))<;>intro hg<;>(first|(exact absurd hg (by decide))|((try simp only [qz,ge_iff_le,List.cons.injEq,and_true] at hg);first|(exact absurd trivial hg)|(exfalso;omega)|(have hT:True:=hg;clear hT hg)|skip)))
 | (refine zs ?_)
 | fail
 )
  refine ⟨2,?_,?_,by refine ak rfl ?_ ?_<;>repeat (first|exact ai|exact ac|refine ae rfl rfl ?_|refine ab rfl rfl rfl ?_)⟩
  ·decide
  ·decide
 ·skip
  repeat' (first
 | ((with_reducible apply (dh 2));(iterate 3 exact rfl);decide;exact rfl;exact rfl)
 | ((first|((with_reducible apply aj);iterate 4 exact rfl)|((with_reducible apply aa);exact rfl))<;>intro hg<;>(first|(exact absurd hg (by decide))|((try simp only [qz,ge_iff_le,List.cons.injEq,and_true] at hg);first|(exact absurd trivial hg)|(exfalso;omega)|(have hT:True:=hg;clear hT hg)|skip)))
 | (refine zs ?_)
 | fail
 )
  refine ⟨3,?_,?_,by refine ak rfl ?_ ?_<;>repeat (first|exact ai|exact ac|refine ae rfl rfl ?_|refine ab rfl rfl rfl ?_)⟩
  ·decide
  ·decide
 ·skip
  repeat' (first
 | ((with_reducible apply (dh 3));(iterate 3 exact rfl);decide;exact rfl;exact rfl)
 | ((first|((with_reducible apply aj);iterate 4 exact rfl)|((with_reducible apply aa);exact rfl))<;>intro hg<;>(first|(exact absurd hg (by decide))|((try simp only [qz,ge_iff_le,List.cons.injEq,and_true] at hg);first|(exact absurd trivial hg)|(exfalso;omega)|(have hT:True:=hg;clear hT hg)|skip)))
 | (refine zs ?_)
 | fail
 )
  refine ⟨4,?_,?_,by refine ak rfl ?_ ?_<;>repeat (first|exact ai|exact ac|refine ae rfl rfl ?_|refine ab rfl rfl rfl ?_)⟩
  ·decide
  ·decide
 ·skip
  repeat' (first
 | (((with_reducible apply aa);exact rfl)<;>intro hg<;>(first|(exact absurd hg (by decide))|((try simp only [qz,ge_iff_le,List.cons.injEq,and_true] at hg);first|(exact absurd trivial hg)|(exfalso;omega)|(have hT:True:=hg;clear hT hg)|skip)))
 | (refine zs ?_)
 | fail
 )
  all_goals exact aB rfl rfl
def cA (X:an) (w:Int):Nat:=(X.2 - X.1 - w+1).toNat
noncomputable def f8 (l:List Slc) (d:List Dfc) (c:List Pr) (X Y:an) (s:Sw) (r:Rt) (w pi:Int) (p:Nat):Int :=
 if (p:Int).tmod s.pitch=0 then eR l d (fF c pi.toNat) (X.1+p,X.1+(p+w)) Y s r else -1
noncomputable def gi (l:List Slc) (d:List Dfc) (c:List Pr) (X Y:an) (s:Sw) (r:Rt) (i:Nat):List Int :=
 aN (f8 l d c X Y s r ((cB c (Y.2 - Y.1)).getD i (0,0)).1 ((cB c (Y.2 - Y.1)).getD i (0,0)).2) (cA X ((cB c (Y.2 - Y.1)).getD i (0,0)).1)
noncomputable def dU (l:List Slc) (X Y:an) (k:Int) (p:Nat):Int:=k * bH l (X.1+p,X.1+(p+1)) Y (0,aw l)
noncomputable def aU (l:List Slc) (d:List Dfc) (c:List Pr) (X Y:an) (s:Sw) (r:Rt):Cu.Line :=
 ⟨X.2 - X.1,s.kerf,1,(cB c (Y.2 - Y.1)).map Prod.fst,aN (gi l d c X Y s r) (cB c (Y.2 - Y.1)).length,aN (dU l X Y r.chip) (X.2 - X.1).toNat,aN (dU l X Y r.dust) (X.2 - X.1).toNat⟩
theorem sz_get {Z:List (Int×Int)} {i:Nat} (h:i < Z.length):∃ (h1:i < (Z.map Prod.fst).length) (h2:i < (Z.map Prod.snd).length),Z.getD i (0,0)=((Z.map Prod.fst)[i],(Z.map Prod.snd)[i])∧((Z.map Prod.fst)[i],(Z.map Prod.snd)[i])∈Z:=by
 refine ⟨by simpa using h,by simpa using h,?_,?_⟩
 ·rw [List.getD_eq_getElem?_getD,List.getElem?_eq_getElem h]
  simp
 ·have:((Z.map Prod.fst)[i]'(by simpa using h),(Z.map Prod.snd)[i]'(by simpa using h))=Z[i]:=by simp
  rw [this];exact List.getElem_mem h
theorem eline_con {l:List Slc} {d:List Dfc} {c:List Pr} {s:Sw} {r:Rt} (h:Hy l d c s r) (X Y:an) (hX:aJ X) (hY:aJ Y) :
  bm Tryz.prog gl 102 [LL l,LD d,fj c,.agg (cQ X Y),swC s,rtC r] (.tup [Cu.ef (aU l d c X Y s r),I 0]):=by
 have c1:=echeck_con (gl:=gl) h X Y hX hY
 have c2:=esizes_con (gl:=gl) c h.pro (Y.2 - Y.1)
 have c3:=Ge.fu (gl:=gl) l h.ln
 have hX0:=hX
 have hY0:=hY
 obtain ⟨x1,x2,x3⟩:=hX
 obtain ⟨y1,y2,y3⟩:=hY
 obtain ⟨s1,s2,s3,s4,s5,s6,s7,s8⟩:=h.sw
 obtain ⟨r1,r2,r3,r4,r5,r6⟩:=h.rt
 have hmem:=sz_mem h.pro (h:=Y.2 - Y.1) c.length (Nat.le_refl _)
 have hzl:=szN_le c (Y.2 - Y.1) c.length
 have hcl:=cU h.pro
 have hzg:∀ i,i < (cB c (Y.2 - Y.1)).length→_:=fun i=>sz_get (Z:=cB c (Y.2 - Y.1)) (i:=i)
 have hwl:((cB c (Y.2 - Y.1)).map Prod.fst).length=(cB c (Y.2 - Y.1)).length:=List.length_map ..
 have hpl:((cB c (Y.2 - Y.1)).map Prod.snd).length=(cB c (Y.2 - Y.1)).length:=List.length_map ..
 have hgf:∀ i,i < (cB c (Y.2 - Y.1)).length→∀ w pi,(cB c (Y.2 - Y.1)).getD i (0,0)=(w,pi)→gi l d c X Y s r i=aN (f8 l d c X Y s r w pi) (cA X w):=fun i _ w pi e=>by unfold gi;rw [e]
 unfold aU
 change ∀ x∈cB c (Y.2 - Y.1),_ at hmem
 change (cB c (Y.2 - Y.1)).length≤_ at hzl
 generalize hZ:cB c (Y.2 - Y.1)=Z at *
 generalize hW:Z.map Prod.fst=ws at *
 generalize hP:Z.map Prod.snd=ps at *
 generalize hG:gi l d c X Y s r=G at *
 refine ao Tryz.func102 rfl (by kernel_rfl) rfl ?_
 simp only [Tryz.ntmps102,Tryz.results102,am,ofC,aZ,List.map,swL,rtL]
 repeat' (first
 | ((with_reducible apply (ah (f:=141)));exact rfl;exact rfl;exact c1;exact rfl;exact rfl)
 | ((with_reducible apply (ah (f:=103)));exact rfl;exact rfl;exact c2;exact rfl;exact rfl)
 | (((with_reducible apply aa);exact rfl)<;>intro hg<;>(first|(exact absurd hg (by decide))|((try simp only [qz,ge_iff_le,List.cons.injEq,and_true] at hg);first|(exact absurd trivial hg)|(exfalso;omega)|(have hT:True:=hg;clear hT hg)|skip)))
 | (refine zs ?_)
 | fail
 )
 refine bO 4 4 58 1 rfl rfl rfl rfl ?_
 refine bO 4 5 3 1 rfl rfl rfl rfl ?_
 refine bO 4 6 3 1 rfl rfl rfl rfl ?_
 refine au (G:=Nat) (fun (i:Nat)=>i≤Z.length) (fun (i:Nat)=>Z.length - i) (fun (i:Nat)=>[(0,.c (LL l)),(1,.c (LD d)),(2,.c (fj c)),(9,.ptr 0 0),(10,.ptr 1 0),(11,.ptr 2 0),(12,.ptr 3 0),(15,A (X.2 - X.1)),(16,.c (LI ws)),(17,.c (LI ps)),(18,.ptr 4 0),(62,.c (LI ws)),(63,A ws.length),(64,A i)]) (fun (i:Nat)=>[(4,some (.cells 68 [A (X.2 - X.1),A s.kerf,A 1,.c (LI ws),.vec 5 i,.vec 6 0,.vec 7 0])),(5,some (.vec 58 1 ((aN G i).flatMap fP))),(6,some (.vec 3 1 [])),(7,some (.vec 3 1 [])),(3,some (.cells 68 [A 0,A 0,A 0,.c (.v (.slice none 0 0)),.c (.v (.slice none 0 0)),.c (.v (.slice none 0 0)),.c (.v (.slice none 0 0))])),(2,some (.cells 28 [A r.chip,A r.dust,A r.fine])),(1,some (.cells 26 [A s.kerf,A s.trim,A s.pitch,A s.step])),(0,some (.cells 37 [A X.1,A X.2,A Y.1,A Y.2]))]) 8 0 ?_ (by refine ak rfl ?_ ?_<;>repeat (first|exact ai|exact ac|refine ae rfl rfl ?_|refine ab rfl rfl rfl ?_)) rfl ?_
 ·exact Nat.zero_le _
 rintro i hI
 try dsimp only at hI
 try dsimp only
 have hgl:=aT G i
 by_cases hi:i < Z.length
 ·obtain ⟨i1,i2,hz1,hz2⟩:=hzg i hi
  have hiw:i < ws.length:=by omega
  obtain ⟨pi,p1,p2,p3,p4,p5⟩:=hmem _ hz2
  dsimp only at p2 p3 p4 p5
  have hgi:=hgf i hi _ _ hz1
  repeat' (first
 | (((with_reducible apply aa);exact rfl)<;>intro hg<;>(first|(exact absurd hg (by decide))|((try simp only [qz,ge_iff_le,List.cons.injEq,and_true] at hg);first|(exact absurd trivial hg)|(exfalso;omega)|(have hT:True:=hg;clear hT hg)|skip)))
 | (refine zs ?_)
 | fail
 )
  refine bo 21 3 1 rfl rfl ?_
  have hps0:0≤ps[i]:=by omega
  have hps1:ps[i].toNat < c.length:=by omega
  have hcn:cA X ws[i]=(X.2 - X.1 - ws[i]+1).toNat:=rfl
  refine au (G:=Nat) (fun (p:Nat)=>p≤cA X ws[i]) (fun (p:Nat)=>cA X ws[i] - p) (fun (p:Nat)=>[(0,.c (LL l)),(1,.c (LD d)),(2,.c (fj c)),(9,.ptr 0 0),(10,.ptr 1 0),(11,.ptr 2 0),(12,.ptr 3 0),(15,A (X.2 - X.1)),(16,.c (LI ws)),(17,.c (LI ps)),(18,.ptr 4 0),(19,A i),(20,A ws[i]),(21,.vec 8 p),(22,A p),(62,.c (LI ws)),(63,A ws.length),(64,A i)]) (fun (p:Nat)=>[(8,some (.vec 3 1 ((aN (f8 l d c X Y s r ws[i] ps[i]) p).flatMap ce))),(4,some (.cells 68 [A (X.2 - X.1),A s.kerf,A 1,.c (LI ws),.vec 5 i,.vec 6 0,.vec 7 0])),(5,some (.vec 58 1 ((aN G i).flatMap fP))),(6,some (.vec 3 1 [])),(7,some (.vec 3 1 [])),(3,some (.cells 68 [A 0,A 0,A 0,.c (.v (.slice none 0 0)),.c (.v (.slice none 0 0)),.c (.v (.slice none 0 0)),.c (.v (.slice none 0 0))])),(2,some (.cells 28 [A r.chip,A r.dust,A r.fine])),(1,some (.cells 26 [A s.kerf,A s.trim,A s.pitch,A s.step])),(0,some (.cells 37 [A X.1,A X.2,A Y.1,A Y.2]))]) 9 0 ?_ (by refine ak rfl ?_ ?_<;>repeat (first|exact ai|exact ac|refine ae rfl rfl ?_|refine ab rfl rfl rfl ?_)) rfl ?_
  ·exact Nat.zero_le _
  rintro p hI
  try dsimp only at hI
  try dsimp only
  have hrl:=aT (f8 l d c X Y s r ws[i] ps[i]) p
  by_cases hp:(p:Int)+ws[i]≤X.2 - X.1
  ·have hw5:5≤ws[i]:=p3
   by_cases hm:(p:Int).tmod s.pitch=0
   ·have hwq:Wq l d c[ps[i].toNat] (X.1+p,X.1+(p+ws[i])) Y:=by
     have:=h.wq hps1 (X:=(X.1+p,X.1+(p+ws[i]))) (Y:=Y) ⟨by dsimp only;omega,by dsimp only;omega,by dsimp only;omega⟩ hY0 (by
      rw [show ps[i].toNat=pi by omega];dsimp only
      rcases p5 with ⟨a,b⟩|⟨a,b⟩
      ·exact .inl ⟨by omega,by omega⟩
      ·exact .inr ⟨by omega,by omega⟩)
     rw [fB hps1] at this;exact this
    have cg:=gain_con (gl:=gl) hwq s r h.sw h.rt
    have cp:=epart_con (gl:=gl) X Y p (p+ws[i]) ⟨by unfold aQ;omega,by unfold aQ;omega⟩
    have hrow:f8 l d c X Y s r ws[i] ps[i] p=eR l d c[ps[i].toNat] (X.1+p,X.1+(p+ws[i])) Y s r:=by unfold f8;rw [if_pos hm,fB hps1]
    generalize eR l d c[ps[i].toNat] (X.1+p,X.1+(p+ws[i])) Y s r=g at *
    repeat' (first
 | (refine aL 18 ?_ ?_;(kernel_rfl);(simp only [List.take_succ_cons,List.take_zero,List.drop_succ_cons,List.drop_zero]))
 | ((with_reducible apply bg);iterate 7 exact rfl)
 | ((with_reducible apply (ah (f:=104)));exact rfl;exact rfl;exact cp;exact rfl;exact rfl)
 | ((with_reducible apply (ah (f:=142)));exact rfl;exact rfl;exact cg;exact rfl;exact rfl)
 | ((with_reducible apply r_rem);exact rfl;exact rfl;omega;exact rfl)
 | ((with_reducible apply (aH (enc:=ce) (l2:=[g])));exact rfl;exact rfl;exact inferInstance;exact hrl;exact rfl;exact (by show _+1 < _;omega);exact (by show (_+1) * _≤_;omega);exact rfl)
 | (((with_reducible apply aa);exact rfl)<;>intro hg<;>(first|(exact absurd hg (by decide))|((try simp only [qz,ge_iff_le,List.cons.injEq,and_true] at hg);first|(exact absurd trivial hg)|(exfalso;omega)|(have hT:True:=hg;clear hT hg)|skip)))
 | (refine zs ?_)
 | fail
 )
    rw [show aN (f8 l d c X Y s r ws[i] ps[i]) p++[g]=aN (f8 l d c X Y s r ws[i] ps[i]) (p+1) from by rw [aN,hrow]]
    refine ⟨p+1,?_,?_,by refine ak rfl ?_ ?_<;>repeat (first|exact ai|exact ac|refine ae rfl rfl ?_|refine ab rfl rfl rfl ?_)⟩
    ·show cA X ws[i] - (p+1) < cA X ws[i] - p;omega
    ·show p+1≤cA X ws[i];omega
   ·have hrow:f8 l d c X Y s r ws[i] ps[i] p=-1:=by unfold f8;rw [if_neg hm]
    repeat' (first
 | ((with_reducible apply bg);iterate 7 exact rfl)
 | ((with_reducible apply r_rem);exact rfl;exact rfl;omega;exact rfl)
 | ((with_reducible apply (aH (enc:=ce) (l2:=[(-1:Int)])));exact rfl;exact rfl;exact inferInstance;exact hrl;exact rfl;exact (by show _+1 < _;omega);exact (by show (_+1) * _≤_;omega);exact rfl)
 | (((with_reducible apply aa);exact rfl)<;>intro hg<;>(first|(exact absurd hg (by decide))|((try simp only [qz,ge_iff_le,List.cons.injEq,and_true] at hg);first|(exact absurd trivial hg)|(exfalso;omega)|(have hT:True:=hg;clear hT hg)|skip)))
 | (refine zs ?_)
 | fail
 )
    rw [show aN (f8 l d c X Y s r ws[i] ps[i]) p++[(-1:Int)]=aN (f8 l d c X Y s r ws[i] ps[i]) (p+1) from by rw [aN,hrow]]
    refine ⟨p+1,?_,?_,by refine ak rfl ?_ ?_<;>repeat (first|exact ai|exact ac|refine ae rfl rfl ?_|refine ab rfl rfl rfl ?_)⟩
    ·show cA X ws[i] - (p+1) < cA X ws[i] - p;omega
    ·show p+1≤cA X ws[i];omega
  ·obtain rfl:p=cA X ws[i]:=by omega
   repeat' (first
 | ((with_reducible apply (ck 105));exact rfl;exact rfl;exact (by rw [av EncL.len,hrl]))
 | ((with_reducible apply bg);iterate 7 exact rfl)
 | ((with_reducible apply (aH (enc:=fP) (l2:=[aN (f8 l d c X Y s r ws[i] ps[i]) (cA X ws[i])])));exact rfl;exact rfl;exact inferInstance;exact hgl;exact rfl;exact (by show _+1 < _;omega);exact (by show (_+1) * _≤_;omega);exact rfl)
 | (((with_reducible apply aa);exact rfl)<;>intro hg<;>(first|(exact absurd hg (by decide))|((try simp only [qz,ge_iff_le,List.cons.injEq,and_true] at hg);first|(exact absurd trivial hg)|(exfalso;omega)|(have hT:True:=hg;clear hT hg)|skip)))
 | (refine zs ?_)
 | fail
 )
   rw [show aN G i++[aN (f8 l d c X Y s r ws[i] ps[i]) (cA X ws[i])]=aN G (i+1) from by rw [aN,hgi]]
   refine ⟨i+1,?_,?_,by refine ak rfl ?_ ?_<;>repeat (first|exact ai|exact ac|refine ae rfl rfl ?_|refine ab rfl rfl rfl ?_)⟩
   ·show Z.length - (i+1) < Z.length - i;omega
   ·show i+1≤Z.length;omega
 ·obtain rfl:i=Z.length:=by omega
  repeat' (first
 | ((with_reducible apply (ah (f:=65)));exact rfl;exact rfl;exact c3;exact rfl;exact rfl)
 | (((with_reducible apply aa);exact rfl)<;>intro hg<;>(first|(exact absurd hg (by decide))|((try simp only [qz,ge_iff_le,List.cons.injEq,and_true] at hg);first|(exact absurd trivial hg)|(exfalso;omega)|(have hT:True:=hg;clear hT hg)|skip)))
 | (refine zs ?_)
 | fail
 )
  obtain ⟨n,hn⟩:∃ n:Nat,X.2 - X.1=(n:Int):=⟨(X.2 - X.1).toNat,by omega⟩
  have hnt:(X.2 - X.1).toNat=n:=by omega
  rw [hnt]
  have hgl:=aT G Z.length
  have hwood:∀ k p,dU l X Y k p=k * bH l (X.1+p,X.1+(p+1)) Y (0,aw l):=fun _ _=>rfl
  have c4:=fun p:Int=>fo (gl:=gl) l h.ln (X.1+p,X.1+(p+1)) Y (0,aw l)
  have b1:=fun p:Int=>Ge.cD l (X.1+p,X.1+(p+1)) Y (0,aw l)
  generalize aw l=L at *
  refine au (G:=Nat) (fun (p:Nat)=>p≤n) (fun (p:Nat)=>n - p) (fun (p:Nat)=>[(0,.c (LL l)),(9,.ptr 0 0),(11,.ptr 2 0),(12,.ptr 3 0),(18,.ptr 4 0),(24,.ptr 8 0),(113,A (X.2 - X.1)),(114,A p)]) (fun (p:Nat)=>[(8,some (.cells 35 [A 0,A L])),(4,some (.cells 68 [A (X.2 - X.1),A s.kerf,A 1,.c (LI ws),.vec 5 Z.length,.vec 6 p,.vec 7 p])),(5,some (.vec 58 1 ((aN G Z.length).flatMap fP))),(6,some (.vec 3 1 ((aN (dU l X Y r.chip) p).flatMap ce))),(7,some (.vec 3 1 ((aN (dU l X Y r.dust) p).flatMap ce))),(3,some (.cells 68 [A 0,A 0,A 0,.c (.v (.slice none 0 0)),.c (.v (.slice none 0 0)),.c (.v (.slice none 0 0)),.c (.v (.slice none 0 0))])),(2,some (.cells 28 [A r.chip,A r.dust,A r.fine])),(0,some (.cells 37 [A X.1,A X.2,A Y.1,A Y.2]))]) 9 0 ?_ (by refine ak rfl ?_ ?_<;>repeat (first|exact ai|exact ac|refine ae rfl rfl ?_|refine ab rfl rfl rfl ?_)) rfl ?_
  ·exact Nat.zero_le _
  rintro p hI
  try dsimp only at hI
  try dsimp only
  have l1:=aT (dU l X Y r.chip) p
  have l2:=aT (dU l X Y r.dust) p
  by_cases hp:p < n
  ·have cp:=epart_con (gl:=gl) X Y p (p+1) ⟨by unfold aQ;omega,by unfold aQ;omega⟩
   have c5:=c4 p
   have b2:=b1 p
   have w1:=hwood r.chip p
   have w2:=hwood r.dust p
   generalize bH l (X.1+(p:Int),X.1+((p:Int)+1)) Y (0,L)=v at *
   have m1:=d8 ⟨r1,r2⟩ b2
   have m2:=d8 ⟨r3,r4⟩ b2
   have f1:aQ (r.chip * v):=by unfold aQ;omega
   have f2:aQ (r.dust * v):=by unfold aQ;omega
   repeat' (first
 | ((with_reducible apply bg);iterate 7 exact rfl)
 | ((with_reducible apply (ah (f:=104)));exact rfl;exact rfl;exact cp;exact rfl;exact rfl)
 | ((with_reducible apply (ah (f:=143)));exact rfl;exact rfl;exact c5;exact rfl;exact rfl)
 | ((with_reducible apply (aH (enc:=ce) (l2:=[r.chip * v])));exact rfl;exact rfl;exact inferInstance;exact l1;exact rfl;exact (by show _+1 < _;omega);exact (by show (_+1) * _≤_;omega);exact rfl)
 | ((with_reducible apply (aH (enc:=ce) (l2:=[r.dust * v])));exact rfl;exact rfl;exact inferInstance;exact l2;exact rfl;exact (by show _+1 < _;omega);exact (by show (_+1) * _≤_;omega);exact rfl)
 | (((with_reducible apply aa);exact rfl)<;>intro hg<;>(first|(exact absurd hg (by decide))|((try simp only [qz,ge_iff_le,List.cons.injEq,and_true] at hg);first|(exact absurd trivial hg)|(exfalso;omega)|(have hT:True:=hg;clear hT hg)|skip)))
 | (refine zs ?_)
 | fail
 )
   rw [show aN (dU l X Y r.chip) p++[r.chip * v]=aN (dU l X Y r.chip) (p+1) from by rw [aN,w1],show aN (dU l X Y r.dust) p++[r.dust * v]=aN (dU l X Y r.dust) (p+1) from by rw [aN,w2]]
   refine ⟨p+1,?_,?_,by refine ak rfl ?_ ?_<;>repeat (first|exact ai|exact ac|refine ae rfl rfl ?_|refine ab rfl rfl rfl ?_)⟩
   ·show n - (p+1) < n - p;omega
   ·show p+1≤n;omega
  ·obtain rfl:p=n:=by omega
   repeat' (first
 | (((with_reducible apply aa);exact rfl)<;>intro hg<;>(first|(exact absurd hg (by decide))|((try simp only [qz,ge_iff_le,List.cons.injEq,and_true] at hg);first|(exact absurd trivial hg)|(exfalso;omega)|(have hT:True:=hg;clear hT hg)|skip)))
 | (refine zs ?_)
 | fail
 )
   all_goals exact bJ (.cons (.cell_a inferInstance rfl rfl rfl rfl (al ap (al ap (al ap (al ap (al (bx rfl (by rw [av EncL.len,hgl])) (al (bx rfl (by rw [av EncL.len,l1])) (al (bx rfl (by rw [av EncL.len,l2])) bj)))))))) (.cons (.tmp rfl ap) .nil))
end Go.Proofs.YtdndfncpglfdeaaGreatDoor.Tp

namespace Go.Proofs.YtdndfncpglfdeaaGreatDoor.Tp
set_option linter.unusedVariables false
set_option linter.unusedSimpArgs false
open Go.RowKit Go.Proofs.YtdndfncpglfdeaaGreatDoor.Ev
open Go.Proofs.YtdndfncpglfdeaaGreatDoor.Cu
def PVg (l:Line):Int→List (Int×Int×Int)→Int
 | e,[]=>if 0≤e then cp l l.len - cp l e else 0
 | e,x::xs=>(if e < x.1 then cR l e x.1 else 0)+x.2.2+(if 0≤aA l x.2.1 then dp l (aA l x.2.1) - dp l x.2.1 else 0)+PVg l (aA l x.2.1) xs
def OKg (l:Line):Int→List (Int×Int×Int)→Prop
 | _,[]=>True
 | e,x::xs=>0≤e∧x.1 < x.2.1∧x.2.1≤l.len∧(x.1=e∨e+l.kerf+1≤x.1)∧OKg l (aA l x.2.1) xs
def UPg (l:Line) (x:Int×Int×Int):Prop :=
 (∃ k:Nat,k < l.sizes.length∧x.2.1=x.1+aR l k∧0≤gOf l k x.1∧x.2.2≤gOf l k x.1)∨x.2.2≤cp l x.2.1 - cp l x.1
def Cheap (l:Line):Prop:=∀ a b,0≤a→a≤b→b≤l.len→dp l b - dp l a≤cp l b - cp l a
theorem cand1 {l:Line} (v:Valid l) (hp:l.pitch=1) {e a:Int} {k:Nat} (hk:k < l.sizes.length) (ha:a=e∨e+l.kerf+1≤a) (hs:a+aR l k≤l.len) (hg:0≤gOf l k a):Cand l e k a:=by
 have hz:=sz_pos v hk
 refine ⟨hk,⟨hs,hg⟩,?_⟩
 rcases ha with h|h
 ·exact .inl h
 ·refine .inr ⟨(a - e - l.kerf).toNat,by omega,?_,by omega⟩
  unfold gH
  rw [hp];omega
theorem tv_step {l:Line} (v:Valid l) (hp:l.pitch=1) {e a:Int} {k:Nat} (h0:0≤e) (h1:e≤l.len) (hk:k < l.sizes.length) (ha:a=e∨e+l.kerf+1≤a) (hs:a+aR l k≤l.len) (hg:0≤gOf l k a):cv l (TV l) e k a≤TV l e:=by
 have hc:=cand1 v hp hk ha hs hg
 exact (tt_inv v h0 h1).all k a hk hc.2.1 (at_of v h0 hc)
theorem tv_stop {l:Line} (v:Valid l) {e:Int} (h0:0≤e) (h1:e≤l.len):cp l l.len - cp l e≤TV l e:=(tt_inv v h0 h1).ge
theorem beh_of {l:Line} (v:Valid l) {b:Int} (h0:0≤b) (h1:b≤l.len):(b=l.len∧aA l b=-1)∨(b < l.len∧b≤aA l b∧aA l b≤l.len∧aA l b=min (b+l.kerf) l.len):=fh v h0 h1
theorem tv_drop {l:Line} (v:Valid l) (hp:l.pitch=1) (hd:Cheap l) {e b:Int} (h0:0≤e) (hb:e < b) (hb2:b≤l.len) :
  cp l b - cp l e+(if 0≤aA l b then dp l (aA l b) - dp l b+TV l (aA l b) else 0)≤TV l e:=by
 have hstop:=tv_stop v h0 (by omega)
 have hk:=v.kerf
 rcases beh_of v (b:=b) (by omega) hb2 with ⟨h,h2⟩|⟨h1,h2,h3,h4⟩
 ·rw [h2,if_neg (by decide),h];omega
 ·rw [if_pos (by omega)]
  generalize aA l b=e' at *
  have hi:=tt_inv v (e:=e') (by omega) h3
  have hde:=hd b e' (by omega) h2 h3
  have hTV:TV l e'=(TT l e').2.2:=rfl
  rcases hi.one with h|⟨i,q,k1,k2,k3,k4,k5,_⟩
  ·have:TV l e'=cp l l.len - cp l e':=by rw [hTV,h]
   omega
  ·have hc:=cand_at k2 k3 k4
   have hz:=sz_pos v k2
   have hq:q=e'∨e'+l.kerf+1≤q:=by
    rcases hc.2.2 with h|⟨j,h6,h7,_⟩
    ·exact .inl h
    ·unfold gH at h7;rw [hp] at h7;omega
   have hsz:=k3.1
   have hlt:q < l.len:=by omega
   have he':e'=b+l.kerf:=by omega
   have hst:=tv_step v hp (e:=e) (a:=q) h0 (by omega) k2 (.inr (by omega)) hsz k3.2
   have hval:TV l e'=cv l (TV l) e' i q:=by rw [hTV,k1]
   rw [hval]
   refine Int.le_trans ?_ hst
   unfold cv
   rw [if_pos (show e < q by omega)]
   unfold cR
   rcases hq with hq|hq
   ·rw [if_neg (by omega)]
    subst hq
    have e1:q - l.kerf=b:=by omega
    rw [e1];omega
   ·rw [if_pos (by omega)]
    omega
theorem pvg_neg {l:Line} {e:Int} (he:e < 0):∀ {xs:List (Int×Int×Int)},OKg l e xs→PVg l e xs=0
 | [],_=>by unfold PVg;rw [if_neg (by omega)]
 | _::_,h=>by have:=h.1;omega
theorem pvg_le {l:Line} (v:Valid l) (hp:l.pitch=1) (hd:Cheap l):∀ (xs:List (Int×Int×Int)) (e:Int),0≤e→e≤l.len→OKg l e xs→(∀ x∈xs,UPg l x)→PVg l e xs≤TV l e
 | [],e,h0,h1,_,_=>by
  unfold PVg;rw [if_pos h0];exact tv_stop v h0 h1
 | (a,b,w)::xs,e,h0,h1,ho,hu=>by
  obtain ⟨_,g1,g2,g3,g4⟩:=ho
  dsimp only at g1 g2 g3 g4
  have hk:=v.kerf
  have hux:=hu _ (List.mem_cons_self ..)
  have hrest:PVg l (aA l b) xs≤(if 0≤aA l b then TV l (aA l b) else 0):=by
   rcases beh_of v (b:=b) (by omega) g2 with ⟨_,h2⟩|⟨_,h2,h3,_⟩
   ·rw [h2] at g4 ⊢
    rw [pvg_neg (by omega) g4];exact Int.le_refl 0
   ·rw [if_pos (by omega)]
    exact pvg_le v hp hd xs _ (by omega) h3 g4 (fun x hx=>hu x (List.mem_cons_of_mem _ hx))
  show (if e < a then cR l e a else 0)+w+(if 0≤aA l b then dp l (aA l b) - dp l b else 0)+PVg l (aA l b) xs≤TV l e
  rcases hux with ⟨k,u1,u2,u3,u4⟩|u
  ·dsimp only at u2 u3 u4
   subst u2
   have hst:=tv_step v hp (e:=e) (a:=a) h0 h1 u1 g3 g2 u3
   unfold cv cY at hst
   split at hrest<;>rename_i hb
   ·rw [if_pos hb] at hst ⊢;omega
   ·rw [if_neg hb] at hst ⊢;omega
  ·dsimp only at u
   have hdr:=tv_drop v hp hd (e:=e) (b:=b) h0 (by omega) g2
   have hpaid:(if e < a then cR l e a else 0)+cp l b - cp l a≤cp l b - cp l e:=by
    split
    ·unfold cR
     have:=hd (a - l.kerf) a (by omega) (by omega) (by omega)
     omega
    ·have:a=e:=by omega
     subst this;omega
   split at hrest<;>rename_i hb
   ·rw [if_pos hb] at hdr ⊢;omega
   ·rw [if_neg hb] at hdr ⊢;omega
def iG (l:Line) (p:List bI):List (Int×Int×Int):=p.map fun x=>(x.2,x.2+aR l x.1,gOf l x.1 x.2)
theorem pvg_of (l:Line):∀ (p:List bI) (e:Int),PVg l e (iG l p)=PV l e p
 | [],e=>rfl
 | x::p,e=>by
  show _+_+_+PVg l _ (iG l p)=_+_+_+PV l _ p
  rw [pvg_of l p]
theorem okg_of {l:Line} (v:Valid l) (hp:l.pitch=1):∀ (p:List bI) (e:Int),OKs l e p→OKg l e (iG l p)
 | [],e,_=>trivial
 | x::p,e,h=>by
  obtain ⟨q1,q2,q3,q4,q5,q6,q7⟩:=gI (l:=l) (e:=e) (s:=x.1) (p:=x.2) h.1
  have hz:=fg v h.1
  refine ⟨q5,?_,?_,?_,okg_of v hp p _ h.2⟩
  ·dsimp only;omega
  ·dsimp only;omega
  ·dsimp only
   rcases q6 with q6|⟨q6,_⟩
   ·exact .inl q6
   ·exact .inr (by omega)
end Go.Proofs.YtdndfncpglfdeaaGreatDoor.Tp

namespace Go.Proofs.YtdndfncpglfdeaaGreatDoor.Tp
set_option linter.unusedVariables false
set_option linter.unusedSimpArgs false
open Go.RowKit Go.Proofs.YtdndfncpglfdeaaGreatDoor.Ev
open Go.Proofs.YtdndfncpglfdeaaGreatDoor.Ge (an aG)
abbrev Nd:=Int×Int
inductive Tr where
 | leaf (n:Nd)
 | rip (ax a:Int) (s t:Tr)
def aq:Tr→List Nd
 | .leaf n=>[n]
 | .rip ax a s t=>(ax,a)::(aq s++aq t)
def dK:Tr→Int
 | .leaf _=>1
 | .rip _ _ s t=>1+max (dK s) (dK t)
theorem cC:∀ t:Tr,1≤dK t∧2 * dK t≤(aq t).length+1
 | .leaf _=>by simp [dK,aq]
 | .rip ax a s t=>by
  have h1:=cC s
  have h2:=cC t
  simp only [dK,aq,List.length_cons,List.length_append]
  omega
def aD (r:aG) (ax:Int):an:=if ax=2 then r.1 else r.2
def bK (r:aG) (ax:Int) (s:an):aG:=if ax=2 then (s,r.2) else (r.1,s)
theorem ex (r:aG) (ax:Int) (s:an):aD (bK r ax s) ax=s:=by unfold aD bK;split<;>rfl
theorem with_with (r:aG) (ax:Int) (s u:an):bK (bK r ax s) ax u=bK r ax u:=by unfold bK;split<;>rfl
def aV (r:aG) (ax a:Int):aG:=bK r ax ((aD r ax).1,a)
def iF (k:Int) (r:aG) (ax a:Int):aG:=bK r ax (a,min (a+k) (aD r ax).2)
def b8 (k:Int) (r:aG) (ax a:Int):aG:=bK r ax (min (a+k) (aD r ax).2,(aD r ax).2)
theorem i9 (r:aG) (ax:Int) (s:an) (a:Int):aV (bK r ax s) ax a=bK r ax (s.1,a):=by unfold aV;rw [ex,with_with]
theorem cut_with (k:Int) (r:aG) (ax:Int) (s:an) (a:Int):iF k (bK r ax s) ax a=bK r ax (a,min (a+k) s.2):=by unfold iF;rw [ex,with_with]
theorem gX (k:Int) (r:aG) (ax:Int) (s:an) (a:Int):b8 k (bK r ax s) ax a=bK r ax (min (a+k) s.2,s.2):=by unfold b8;rw [ex,with_with]
def aC (k:Int):aG→Tr→List (aG×Int)
 | r,.leaf n=>[(r,if n.1=0 then -1 else n.2)]
 | r,.rip ax a s t=>aC k (aV r ax a) s++aC k (b8 k r ax a) t
def cG (k:Int):aG→Tr→List aG
 | _,.leaf _=>[]
 | r,.rip ax a s t=>iF k r ax a::(cG k (aV r ax a) s++cG k (b8 k r ax a) t)
def OkG (k:Int) (B:aG→Int→Prop):aG→Tr→Prop
 | r,.leaf n=>n=(0,0)∨(n.1=1∧B r n.2)
 | r,.rip ax a s t=>(ax=2∨ax=3)∧(aD r ax).1 < a∧a < (aD r ax).2∧OkG k B (aV r ax a) s∧OkG k B (b8 k r ax a) t
section
variable (vol:aG→Int) (bd:aG→Int→Option (Int×Int×Int)) (chip dust:Int)
def fH (x:aG×Int):Int×Int×Int:=if x.2=-1 then (0,0,0) else (bd x.1 x.2).getD (0,0,0)
def cz {α:Type} (f:α→Int) (l:List α):Int:=(l.map f).sum
theorem gg {α:Type} (f:α→Int):cz f []=0:=rfl
theorem dS {α:Type} (f:α→Int) (x:α) (l:List α):cz f (x::l)=f x+cz f l:=by unfold cz;simp
theorem sumI_app {α:Type} (f:α→Int) (l m:List α):cz f (l++m)=cz f l+cz f m:=by unfold cz;simp
def iA (k:Int):aG→Tr→Int
 | r,.leaf n=>if n.1=0 then chip * vol r else match bd r n.2 with
  | some x=>1000000 * x.1+dust * x.2.2+chip * (vol r - x.2.1 - x.2.2)
  | none=>chip * vol r
 | r,.rip ax a s t=>iA k (aV r ax a) s+dust * vol (iF k r ax a)+iA k (b8 k r ax a) t
theorem valT_rip (k:Int) (r:aG) (ax a:Int) (s t:Tr):iA vol bd chip dust k r (.rip ax a s t)=iA vol bd chip dust k (aV r ax a) s+dust * vol (iF k r ax a)+iA vol bd chip dust k (b8 k r ax a) t:=rfl
theorem valT_waste (k:Int) (r:aG):iA vol bd chip dust k r (.leaf (0,0))=chip * vol r:=rfl
def AddV (k:Int):Prop:=∀ r ax a,(ax=2∨ax=3)→(aD r ax).1 < a→a < (aD r ax).2→vol r=vol (aV r ax a)+vol (iF k r ax a)+vol (b8 k r ax a)
def dustT (k:Int) (r:aG) (t:Tr):Int:=cz vol (cG k r t)+cz (fun x=>(fH bd x).2.2) (aC k r t)
theorem val_eq {k:Int} {B:aG→Int→Prop} (hB:∀ r p,B r p→0≤p) (ha:AddV vol k):∀ (t:Tr) (r:aG),OkG k B r t →
  iA vol bd chip dust k r t=1000000 * cz (fun x=>(fH bd x).1) (aC k r t)+chip * (vol r - cz (fun x=>(fH bd x).2.1) (aC k r t) - dustT vol bd k r t)+dust * dustT vol bd k r t
 | .leaf n,r,h=>by
  rcases h with rfl|⟨h1,h2⟩
  ·simp [iA,dustT,aC,cG,cz,fH]
  ·have:=hB _ _ h2
   simp only [iA,dustT,aC,cG,dS,gg,fH]
   rw [if_neg (by omega),if_neg (by omega),if_neg (by omega)]
   cases bd r n.2 with
   | none=>simp
   | some x=>simp only [Option.getD_some];simp only [Int.add_zero,Int.zero_add];omega
 | .rip ax a s t,r,⟨h1,h2,h3,h4,h5⟩=>by
  have e1:=val_eq hB ha s _ h4
  have e2:=val_eq hB ha t _ h5
  have e3:=ha r ax a h1 h2 h3
  unfold dustT at e1 e2
  simp only [iA,dustT,aC,cG,dS,sumI_app]
  rw [e1,e2,e3]
  simp only [Int.mul_add,Int.mul_sub]
  omega
end
def bM (k ax B:Int):Int→List (an×Tr)→Tr
 | _,[]=>.leaf (0,0)
 | e,x::ps =>
  if e < x.1.1 then .rip ax (x.1.1 - k) (.leaf (0,0)) (if x.1.2 < B then .rip ax x.1.2 x.2 (bM k ax B (min (x.1.2+k) B) ps) else x.2)
  else if x.1.2 < B then .rip ax x.1.2 x.2 (bM k ax B (min (x.1.2+k) B) ps) else x.2
def eN (k B:Int):Int→List (an×Tr)→Prop
 | _,[]=>True
 | e,x::ps=>x.1.1 < x.1.2∧x.1.2≤B∧(x.1.1=e∨e+k+1≤x.1.1)∧(x.1.2=B→ps=[])∧eN k B (min (x.1.2+k) B) ps
theorem row_okG {k ax B:Int} (hk:0≤k) (hax:ax=2∨ax=3) {Bd:aG→Int→Prop} {R:aG}:∀ (ps:List (an×Tr)) (e:Int),e≤B→eN k B e ps→(∀ x∈ps,OkG k Bd (bK R ax x.1) x.2)→OkG k Bd (bK R ax (e,B)) (bM k ax B e ps)
 | [],e,_,_,_=>.inl rfl
 | (s,t)::ps,e,he,⟨h1,h2,h3,h4,h5⟩,hx=>by
  dsimp only at h1 h2 h3 h4 h5
  have ht:OkG k Bd (bK R ax s) t:=hx _ (List.mem_cons_self ..)
  have body:∀ u,u=s.1→OkG k Bd (bK R ax (u,B)) (if s.2 < B then .rip ax s.2 t (bM k ax B (min (s.2+k) B) ps) else t):=by
   intro u hu
   subst hu
   split
   ·rename_i hlt
    refine ⟨hax,?_,?_,?_,?_⟩
    ·rw [ex];exact h1
    ·rw [ex];exact hlt
    ·rw [i9];exact ht
    ·rw [gX];exact row_okG hk hax ps _ (by omega) h5 (fun x hm=>hx x (List.mem_cons_of_mem _ hm))
   ·rename_i hlt
    have:s.2=B:=by omega
    rw [← this];exact ht
  unfold bM
  dsimp only
  split
  ·rename_i hlt
   refine ⟨hax,?_,?_,.inl rfl,?_⟩
   ·rw [ex];dsimp only;omega
   ·rw [ex];dsimp only;omega
   ·rw [gX];dsimp only;exact body _ (by omega)
  ·exact body e (by omega)
structure LineOf (vol:aG→Int) (chip dust k ax:Int) (R:aG) (l:Cu.Line):Prop where
 len:l.len=(aD R ax).2 - (aD R ax).1
 kerf:l.kerf=k
 cp:∀ a b,0≤a→a≤b→b≤l.len→Cu.cp l b - Cu.cp l a=chip * vol (bK R ax ((aD R ax).1+a,(aD R ax).1+b))
 dp:∀ a b,0≤a→a≤b→b≤l.len→Cu.dp l b - Cu.dp l a=dust * vol (bK R ax ((aD R ax).1+a,(aD R ax).1+b))
def ft (vol:aG→Int) (bd:aG→Int→Option (Int×Int×Int)) (chip dust k ax:Int) (R:aG) (x:an×Tr):Int×Int×Int :=
 (x.1.1 - (aD R ax).1,x.1.2 - (aD R ax).1,iA vol bd chip dust k (bK R ax x.1) x.2)
theorem row_val {vol:aG→Int} {bd:aG→Int→Option (Int×Int×Int)} {chip dust k ax:Int} {R:aG} {l:Cu.Line} (hk:0≤k) (L:LineOf vol chip dust k ax R l) :
  ∀ (ps:List (an×Tr)) (e:Int),(aD R ax).1≤e→e≤(aD R ax).2→eN k (aD R ax).2 e ps →
   iA vol bd chip dust k (bK R ax (e,(aD R ax).2)) (bM k ax (aD R ax).2 e ps)=PVg l (e - (aD R ax).1) (ps.map (ft vol bd chip dust k ax R))
 | [],e,h0,h1,_=>by
  have hl:=L.len
  have hc:=L.cp (e - (aD R ax).1) l.len (by omega) (by omega) (Int.le_refl _)
  show (if (0:Int)=0 then _ else _)=(if 0≤e - (aD R ax).1 then _ else _)
  rw [if_pos rfl,if_pos (by omega),hc]
  rw [show (aD R ax).1+(e - (aD R ax).1)=e by omega,show (aD R ax).1+l.len=(aD R ax).2 by omega]
 | (s,t)::ps,e,h0,h1,⟨g1,g2,g3,g4,g5⟩=>by
  have hl:=L.len
  have hlk:=L.kerf
  dsimp only at g1 g2 g3 g4 g5
  have ih:=fun h=>row_val (bd:=bd) hk L ps (min (s.2+k) (aD R ax).2) (by omega) (by omega) h
  have hdp:=L.dp
  have hcp:=L.cp
  generalize hA:(aD R ax).1=A at *
  generalize hBB:(aD R ax).2=B at *
  have body:∀ u,u=s.1→iA vol bd chip dust k (bK R ax (u,B)) (if s.2 < B then .rip ax s.2 t (bM k ax B (min (s.2+k) B) ps) else t)=iA vol bd chip dust k (bK R ax s) t+(if 0≤Cu.aA l (s.2 - A) then Cu.dp l (Cu.aA l (s.2 - A)) - Cu.dp l (s.2 - A) else 0)+PVg l (Cu.aA l (s.2 - A)) (ps.map (ft vol bd chip dust k ax R)):=by
   intro u hu
   subst hu
   by_cases hlt:s.2 < B
   ·rw [if_pos hlt]
    have hb:Cu.aA l (s.2 - A)=min (s.2+k) B - A:=by unfold Cu.aA;rw [if_neg (by omega),hlk,hl];omega
    rw [hb,if_pos (by omega),← ih g5,hdp _ _ (by omega) (by omega) (by omega)]
    rw [valT_rip,i9,cut_with,gX]
    dsimp only
    rw [show A+(s.2 - A)=s.2 by omega,show A+(min (s.2+k) B - A)=min (s.2+k) B by omega]
   ·rw [if_neg hlt]
    have h2:s.2=B:=by omega
    have hb:Cu.aA l (s.2 - A)=-1:=by unfold Cu.aA;rw [if_pos (by omega)]
    rw [hb,if_neg (by decide),g4 h2]
    have e0:PVg l (-1) (List.map (ft vol bd chip dust k ax R) [])=0:=by
     show (if (0:Int)≤-1 then _ else _)=_;rw [if_neg (by decide)]
    rw [e0,← h2];simp
  have hP:PVg l (e - A) (((s,t)::ps).map (ft vol bd chip dust k ax R))=(if e - A < s.1 - A then Cu.cR l (e - A) (s.1 - A) else 0)+iA vol bd chip dust k (bK R ax s) t+(if 0≤Cu.aA l (s.2 - A) then Cu.dp l (Cu.aA l (s.2 - A)) - Cu.dp l (s.2 - A) else 0)+PVg l (Cu.aA l (s.2 - A)) (ps.map (ft vol bd chip dust k ax R)):=by
   rw [List.map_cons,PVg]
   unfold ft
   rw [hA]
  rw [hP]
  unfold bM
  dsimp only
  by_cases hlt:e < s.1
  ·rw [if_pos hlt,if_pos (show e - A < s.1 - A by omega)]
   rw [valT_rip,i9,cut_with,gX]
   dsimp only
   rw [valT_waste,body (min (s.1 - k+k) B) (by omega)]
   unfold Cu.cR
   rw [hlk]
   have c1:=hcp (e - A) (s.1 - A - k) (by omega) (by omega) (by omega)
   have c2:=hdp (s.1 - A - k) (s.1 - A) (by omega) (by omega) (by omega)
   rw [show A+(e - A)=e by omega,show A+(s.1 - A - k)=s.1 - k by omega] at c1
   rw [show A+(s.1 - A - k)=s.1 - k by omega,show A+(s.1 - A)=s.1 by omega] at c2
   rw [show min (s.1 - k+k) B=s.1 by omega]
   omega
  ·rw [if_neg hlt,if_neg (show ¬ e - A < s.1 - A by omega),body e (by omega)]
   omega
theorem row_okg {vol:aG→Int} {bd:aG→Int→Option (Int×Int×Int)} {chip dust k ax:Int} {R:aG} {l:Cu.Line} (hk:0≤k) (L:LineOf vol chip dust k ax R l) :
  ∀ (ps:List (an×Tr)) (e:Int),(aD R ax).1≤e→e≤(aD R ax).2→eN k (aD R ax).2 e ps→OKg l (e - (aD R ax).1) (ps.map (ft vol bd chip dust k ax R))
 | [],_,_,_,_=>trivial
 | (s,t)::ps,e,h0,h1,⟨g1,g2,g3,g4,g5⟩=>by
  have hl:=L.len
  have hlk:=L.kerf
  dsimp only at g1 g2 g3 g4 g5
  refine ⟨by omega,by unfold ft;dsimp only;omega,by unfold ft;dsimp only;omega,by unfold ft;dsimp only;rcases g3 with g3|g3;exact .inl (by omega);exact .inr (by omega),?_⟩
  unfold ft;dsimp only
  by_cases hlt:s.2 < (aD R ax).2
  ·have hb:Cu.aA l (s.2 - (aD R ax).1)=min (s.2+k) (aD R ax).2 - (aD R ax).1:=by unfold Cu.aA;rw [if_neg (by omega),hlk,hl];omega
   rw [hb]
   exact row_okg hk L ps _ (by omega) (by omega) g5
  ·rw [g4 (by omega)];trivial
end Go.Proofs.YtdndfncpglfdeaaGreatDoor.Tp
