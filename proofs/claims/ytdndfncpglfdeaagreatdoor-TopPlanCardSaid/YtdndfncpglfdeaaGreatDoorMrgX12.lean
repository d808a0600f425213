/- QC QD PR SA SB PD: texts laid together. -/
import Derived.Test.YtdndfncpglfdeaaGreatDoorMrgX4
import Derived.Test.YtdndfncpglfdeaaGreatDoorMrgX3
import Derived.Test.YtdndfncpglfdeaaGreatDoorMrgX9
import Derived.Test.YtdndfncpglfdeaaGreatDoorMrgG2
import Derived.Test.YtdndfncpglfdeaaGreatDoorMrgX8
import Derived.Test.YtdndfncpglfdeaaGreatDoorMrgX1
import Derived.Test.YtdndfncpglfdeaaGreatDoorMrgS
set_option maxRecDepth 100000
set_option maxHeartbeats 64000000

namespace Go.Proofs.YtdndfncpglfdeaaGreatDoor.Tp
set_option linter.unusedVariables false
set_option linter.unusedSimpArgs false
open Go.RowKit Go.Proofs.YtdndfncpglfdeaaGreatDoor.Ev
open Go.Proofs.YtdndfncpglfdeaaGreatDoor.Ge (an aG)
theorem iQ (k ax B:Int):∀ (ps:List (an×Tr)) (e:Int),bS k ax B e (ps.map fun x=>(x.1,aq x.2))=aq (bM k ax B e ps)
 | [],e=>rfl
 | x::ps,e=>by
  have ih:=iQ k ax B ps (min (x.1.2+k) B)
  simp only [List.map_cons,bS,bM,ih]
  by_cases h1:e < x.1.1
  ·by_cases h2:x.1.2 < B
   ·simp [h1,h2,aq]
   ·simp [h1,h2,aq]
  ·by_cases h2:x.1.2 < B
   ·simp [h1,h2,aq]
   ·simp [h1,h2]
theorem rowOk_S {k B:Int}:∀ {ps:List (an×Tr)} {e:Int},eK k B e (ps.map Prod.fst)→eN k B e ps
 | [],_,_=>trivial
 | x::ps,e,⟨h1,h2,h3,h4,h5⟩=>⟨h1,h2,h3,fun h=>List.map_eq_nil_iff.1 (h4 h),rowOk_S h5⟩
theorem rowOk_back {k B:Int}:∀ {ps:List (an×Tr)} {e:Int},eN k B e ps→eK k B e (ps.map Prod.fst)
 | [],_,_=>trivial
 | x::ps,e,⟨h1,h2,h3,h4,h5⟩=>⟨h1,h2,h3,fun h=>by rw [h4 h];rfl,rowOk_back h5⟩
theorem val_le {vol:aG→Int} {bd:aG→Int→Option (Int×Int×Int)} {chip dust k:Int} {B:aG→Int→Prop} (hc:0≤chip∧chip≤1000) (hd:0≤dust∧dust≤1000) (hv:∀ r,0≤vol r)
  (hb:∀ r p x,bd r p=some x→0≤x.1∧x.1≤1000000∧0≤x.2.1∧0≤x.2.2∧x.2.1+x.2.2≤vol r) (ha:AddV vol k):∀ (t:Tr) (r:aG),OkG k B r t →
   0≤iA vol bd chip dust k r t∧iA vol bd chip dust k r t≤1000000000000 * (aq t).length+1000 * vol r
 | .leaf n,r,h=>by
  have v0:=hv r
  unfold iA
  have hcv:0≤chip * vol r∧chip * vol r≤1000 * vol r:=⟨Int.mul_nonneg hc.1 v0,Int.mul_le_mul_of_nonneg_right hc.2 v0⟩
  have hl:((aq (.leaf n)).length:Int)=1:=rfl
  rw [hl]
  split
  ·omega
  ·cases hx:bd r n.2 with
   | none=>dsimp only;omega
   | some x =>
    obtain ⟨b1,b2,b3,b4,b5⟩:=hb r n.2 x hx
    dsimp only
    have m1:0≤dust * x.2.2∧dust * x.2.2≤1000 * x.2.2:=⟨Int.mul_nonneg hd.1 b4,Int.mul_le_mul_of_nonneg_right hd.2 b4⟩
    have m2:0≤chip * (vol r - x.2.1 - x.2.2)∧chip * (vol r - x.2.1 - x.2.2)≤1000 * (vol r - x.2.1 - x.2.2):=⟨Int.mul_nonneg hc.1 (by omega),Int.mul_le_mul_of_nonneg_right hc.2 (by omega)⟩
    omega
 | .rip ax a s t,r,⟨h1,h2,h3,h4,h5⟩=>by
  have i1:=val_le hc hd hv hb ha s _ h4
  have i2:=val_le hc hd hv hb ha t _ h5
  have e3:=ha r ax a h1 h2 h3
  have v0:=hv (iF k r ax a)
  have m1:0≤dust * vol (iF k r ax a)∧dust * vol (iF k r ax a)≤1000 * vol (iF k r ax a):=⟨Int.mul_nonneg hd.1 v0,Int.mul_le_mul_of_nonneg_right hd.2 v0⟩
  have hl:((aq (.rip ax a s t)).length:Int)=(aq s).length+(aq t).length+1:=by simp [aq]
  rw [valT_rip,hl,e3]
  omega
end Go.Proofs.YtdndfncpglfdeaaGreatDoor.Tp

namespace Go.Proofs.YtdndfncpglfdeaaGreatDoor.Tp
set_option linter.unusedVariables false
set_option linter.unusedSimpArgs false
open Go.RowKit Go.Proofs.YtdndfncpglfdeaaGreatDoor.Ev
open Go.Proofs.YtdndfncpglfdeaaGreatDoor.Ge (an aG Slc Dfc aw bH)
noncomputable def cS (l:List Slc) (r:aG):Int:=bH l r.1 r.2 (0,aw l)
theorem vol_x (l:List Slc) (Y:an) {p m q:Int} (h1:p≤m) (h2:m≤q):cS l ((p,m),Y)+cS l ((m,q),Y)=cS l ((p,q),Y):=by
 unfold cS bH;exact Ge.win_splitX _ _ _ h1 h2
theorem vol_y (l:List Slc) (X:an) {p m q:Int} (h1:p≤m) (h2:m≤q):cS l (X,(p,m))+cS l (X,(m,q))=cS l (X,(p,q)):=by
 unfold cS bH;exact Ge.win_splitY _ _ _ h1 h2
theorem addV_win (l:List Slc) {k:Int} (hk:0≤k):AddV (cS l) k:=by
 rintro ⟨⟨X1,X2⟩,⟨Y1,Y2⟩⟩ ax a hax h1 h2
 unfold aV iF b8 bK aD at *
 rcases hax with rfl|rfl
 ·simp only [if_true] at h1 h2 ⊢
  rw [← vol_x l (Y1,Y2) (p:=X1) (m:=a) (q:=X2) (by omega) (by omega),← vol_x l (Y1,Y2) (p:=a) (m:=min (a+k) X2) (q:=X2) (by omega) (by omega)]
  omega
 ·
  simp only [show ¬ (3:Int)=2 by decide,if_false] at h1 h2 ⊢
  rw [← vol_y l (X1,X2) (p:=Y1) (m:=a) (q:=Y2) (by omega) (by omega),← vol_y l (X1,X2) (p:=a) (m:=min (a+k) Y2) (q:=Y2) (by omega) (by omega)]
  omega
theorem pre_tel {f F:Nat→Int} (h:∀ p,f p=F (p+1) - F p) (n:Nat):∀ j,j≤n→Cu.pre (aN f n) j=F j - F 0
 | 0,_=>by unfold Cu.pre;simp
 | j+1,hj=>by
  have hl:j < (aN f n).length:=by rw [aT];omega
  rw [Cu.pre_succ _ _ hl,pre_tel h n j (by omega),dG,h]
  omega
theorem tel_x (l:List Slc) (X Y:an) (k:Int) (n:Nat) {a b:Int} (h0:0≤a) (h1:a≤b) (h2:b≤n) :
  Cu.pre (aN (dU l X Y k) n) b.toNat - Cu.pre (aN (dU l X Y k) n) a.toNat=k * cS l ((X.1+a,X.1+b),Y):=by
 have hf:∀ p:Nat,dU l X Y k p=k * cS l ((X.1,X.1+((p+1:Nat):Int)),Y) - k * cS l ((X.1,X.1+(p:Int)),Y):=by
  intro p
  have e:=vol_x l Y (p:=X.1) (m:=X.1+p) (q:=X.1+((p+1:Nat):Int)) (by omega) (by omega)
  rw [← e,Int.mul_add]
  have:dU l X Y k p=k * cS l ((X.1+p,X.1+((p+1:Nat):Int)),Y):=rfl
  omega
 rw [pre_tel (F:=fun p:Nat=>k * cS l ((X.1,X.1+(p:Int)),Y)) hf n _ (by omega),pre_tel (F:=fun p:Nat=>k * cS l ((X.1,X.1+(p:Int)),Y)) hf n _ (by omega)]
 rw [Int.toNat_of_nonneg h0,Int.toNat_of_nonneg (by omega)]
 rw [← vol_x l Y (p:=X.1) (m:=X.1+a) (q:=X.1+b) (by omega) (by omega),Int.mul_add]
 omega
theorem tel_y (l:List Slc) (X Y:an) (k:Int) (n:Nat) {a b:Int} (h0:0≤a) (h1:a≤b) (h2:b≤n) :
  Cu.pre (aN (dW l X Y k) n) b.toNat - Cu.pre (aN (dW l X Y k) n) a.toNat=k * cS l (X,(Y.1+a,Y.1+b)):=by
 have hf:∀ p:Nat,dW l X Y k p=k * cS l (X,(Y.1,Y.1+((p+1:Nat):Int))) - k * cS l (X,(Y.1,Y.1+(p:Int))):=by
  intro p
  have e:=vol_y l X (p:=Y.1) (m:=Y.1+p) (q:=Y.1+((p+1:Nat):Int)) (by omega) (by omega)
  rw [← e,Int.mul_add]
  have:dW l X Y k p=k * cS l (X,(Y.1+p,Y.1+((p+1:Nat):Int))):=rfl
  omega
 rw [pre_tel (F:=fun p:Nat=>k * cS l (X,(Y.1,Y.1+(p:Int)))) hf n _ (by omega),pre_tel (F:=fun p:Nat=>k * cS l (X,(Y.1,Y.1+(p:Int)))) hf n _ (by omega)]
 rw [Int.toNat_of_nonneg h0,Int.toNat_of_nonneg (by omega)]
 rw [← vol_y l X (p:=Y.1) (m:=Y.1+a) (q:=Y.1+b) (by omega) (by omega),Int.mul_add]
 omega
theorem eLine_of (l:List Slc) (d:List Dfc) (c:List Pr) (X Y:an) (s:Sw) (r:Rt) (hX:X.1≤X.2):LineOf (cS l) r.chip r.dust s.kerf 2 (X,Y) (aU l d c X Y s r) where
 len:=rfl
 kerf:=rfl
 cp:=fun a b h0 h1 h2=>tel_x l X Y r.chip (X.2 - X.1).toNat h0 h1 (by have:b≤X.2 - X.1:=h2;omega)
 dp:=fun a b h0 h1 h2=>tel_x l X Y r.dust (X.2 - X.1).toNat h0 h1 (by have:b≤X.2 - X.1:=h2;omega)
theorem pLine_of (l:List Slc) (d:List Dfc) (c:List Pr) (X Y:an) (s:Sw) (r:Rt) (hY:Y.1≤Y.2):LineOf (cS l) r.chip r.dust s.kerf 3 (X,Y) (bh l d c X Y s r) where
 len:=rfl
 kerf:=rfl
 cp:=fun a b h0 h1 h2=>tel_y l X Y r.chip (Y.2 - Y.1).toNat h0 h1 (by have:b≤Y.2 - Y.1:=h2;omega)
 dp:=fun a b h0 h1 h2=>tel_y l X Y r.dust (Y.2 - Y.1).toNat h0 h1 (by have:b≤Y.2 - Y.1:=h2;omega)
end Go.Proofs.YtdndfncpglfdeaaGreatDoor.Tp

namespace Go.Proofs.YtdndfncpglfdeaaGreatDoor.Tp
set_option linter.unusedVariables false
set_option linter.unusedSimpArgs false
open Go.RowKit Go.Proofs.YtdndfncpglfdeaaGreatDoor.Ev
open Go.Proofs.YtdndfncpglfdeaaGreatDoor.Cu (I LI LS gw ce fP ef bestC LP pcC bestS bC TV aR chk perm OKs)
open Go.Proofs.YtdndfncpglfdeaaGreatDoor.Ge (an Slc Dfc dfC LL LD fz cZ pos aw aX inS cI bH ey)
variable {gl:List (Nat×List CV)}
noncomputable def pP (l:List Slc) (d:List Dfc) (c:List Pr) (X Y:an) (s:Sw) (r:Rt):List Cu.bI:=bC (bh l d c X Y s r) ((Y.2 - Y.1).toNat+2) 0
def gP (ss:List (List (List Nd))) (x:Cu.bI):List Nd:=(ss.getD x.1.toNat []).getD x.2.toNat []
noncomputable def pPs (l:List Slc) (d:List Dfc) (c:List Pr) (X Y:an) (s:Sw) (r:Rt):List (an×List Nd) :=
 ((pP l d c X Y s r).map (dE Y.1 (bh l d c X Y s r))).zip ((pP l d c X Y s r).map (gP (b9 l d c X Y s r)))
noncomputable def ee (l:List Slc) (d:List Dfc) (c:List Pr) (X Y:an) (s:Sw) (r:Rt):List Nd:=bS s.kerf 3 Y.2 Y.1 (pPs l d c X Y s r)
noncomputable def pVal (l:List Slc) (d:List Dfc) (c:List Pr) (X Y:an) (s:Sw) (r:Rt):Int:=TV (bh l d c X Y s r) 0+r.chip * (ey l - bH l X Y (0,aw l))
def patL (X Y:an) (nodes:List Nd):List CV:=[I X.1,I X.2,I Y.1,I Y.2,fY nodes]
abbrev patC (X Y:an) (nodes:List Nd):CV:=.agg (patL X Y nodes)
theorem pbest_err (l:List Slc) (d:List Dfc) (c:List Pr) (s:Sw) (r:Rt) (X Y:an) (hl:l.length≤maxLen) (hd:d.length≤maxLen) (hF:aX l=0→aJ X∧aJ Y) (he:planE l d c s r≠0) :
  bm Tryz.prog Cu.G 7 [LL l,LD d,fj c,.agg (cQ X Y),swC s,rtC r] (.tup [patC (0,0) (0,0) [],I 0,I (planE l d c s r)]):=by
 have c1:=pcheck2_con (gl:=Cu.G) l d c s r X Y hl hd hF
 generalize planE l d c s r=e at *
 refine ao Tryz.func7 rfl (by kernel_rfl) rfl ?_
 simp only [Tryz.ntmps7,Tryz.results7,am,ofC,aZ,List.map,swL,rtL]
 repeat' (first
 | ((with_reducible apply (ah (f:=20)));exact rfl;exact rfl;exact c1;exact rfl;exact rfl)
 | (((with_reducible apply aa);exact rfl)<;>intro hg<;>(first|(exact absurd hg (by decide))|((try simp only [qz,ge_iff_le,List.cons.injEq,and_true] at hg);first|(exact absurd trivial hg)|(exfalso;omega)|(have hT:True:=hg;clear hT hg)|skip)))
 | (refine zs ?_)
 | fail
 )
 all_goals exact bJ (.cons (.cell_a inferInstance rfl rfl rfl rfl (al ap (al ap (al ap (al ap (al bP bj)))))) (.cons (.tmp rfl ap) (.cons (.tmp rfl ap) .nil)))
theorem pFnd_len {l:List Slc} {d:List Dfc} {c:List Pr} {X Y:an} {s:Sw} {r:Rt} {h:Int} {p:Nat}:(eU l d c X Y s r h p).length≤127:=by
 unfold eU
 split
 ·rename_i hh;exact hh.2.1
 ·decide
theorem stripN_at {l:List Slc} {d:List Dfc} {c:List Pr} {X Y:an} {s:Sw} {r:Rt} {x:Cu.bI} (h1:x.1.toNat < (aE c).length) (h2:x.2+(aE c)[x.1.toNat]≤Y.2 - Y.1) (h0:0≤x.2) :
  ∃ (a:x.1.toNat < (b9 l d c X Y s r).length) (b:x.2.toNat < ((b9 l d c X Y s r)[x.1.toNat]).length),gP (b9 l d c X Y s r) x=(b9 l d c X Y s r)[x.1.toNat][x.2.toNat]∧gP (b9 l d c X Y s r) x=eU l d c X Y s r (aE c)[x.1.toNat] x.2.toNat:=by
 have a:x.1.toNat < (b9 l d c X Y s r).length:=by unfold b9;rw [aT];exact h1
 have e1:(b9 l d c X Y s r)[x.1.toNat]=pFound l d c X Y s r x.1.toNat:=dG _ _
 have e2:pFound l d c X Y s r x.1.toNat=aN (eU l d c X Y s r (aE c)[x.1.toNat]) (cA Y (aE c)[x.1.toNat]):=by unfold pFound;rw [List.getD_eq_getElem?_getD,List.getElem?_eq_getElem h1];rfl
 have b:x.2.toNat < ((b9 l d c X Y s r)[x.1.toNat]).length:=by rw [e1,e2,aT];unfold cA;omega
 refine ⟨a,b,?_,?_⟩
 ·unfold gP
  rw [List.getD_eq_getElem?_getD,List.getD_eq_getElem?_getD,List.getElem?_eq_getElem a,Option.getD_some,List.getElem?_eq_getElem b];rfl
 ·unfold gP
  have b2:x.2.toNat < (aN (eU l d c X Y s r (aE c)[x.1.toNat]) (cA Y (aE c)[x.1.toNat])).length:=by rw [aT];unfold cA;omega
  rw [List.getD_eq_getElem?_getD,List.getD_eq_getElem?_getD,List.getElem?_eq_getElem a,Option.getD_some,e1,e2,List.getElem?_eq_getElem b2,Option.getD_some]
  exact dG _ _
theorem sum_le {α:Type} {f:α→Nat} {k:Nat}:∀ (l:List α),(∀ x∈l,f x≤k)→(l.map f).sum≤k * l.length
 | [],_=>by simp
 | x::l,h=>by
  have ih:=sum_le l (fun y hy=>h y (List.mem_cons_of_mem _ hy))
  have:=h x (List.mem_cons_self ..)
  simp only [List.map_cons,List.sum_cons,List.length_cons,Nat.mul_add]
  omega
theorem pbest_con {l:List Slc} {d:List Dfc} {c:List Pr} {s:Sw} {r:Rt} (h:Hy l d c s r) (X Y:an) (hX:aJ X) (hY:aJ Y) (hH:Y.2 - Y.1≤160) (v:Cu.Valid (bh l d c X Y s r)) (hfit:aQ (pVal l d c X Y s r)) :
  bm Tryz.prog Cu.G 7 [LL l,LD d,fj c,.agg (cQ X Y),swC s,rtC r] (if (ee l d c X Y s r).length≤127 then .tup [patC X Y (ee l d c X Y s r),I (pVal l d c X Y s r),I 0] else .tup [patC (0,0) (0,0) [],I 0,I 13]):=by
 have c0:=pcheck2_con (gl:=Cu.G) l d c s r X Y h.ln (Nat.le_trans h.dn (by decide)) (fun _=>⟨hX,hY⟩)
 rw [show planE l d c s r=0 by unfold planE;rw [if_neg (fun hh=>hh h.sol),if_neg (fun hh=>hh h.def'),if_neg (fun hh=>hh h.pro)];exact go.2 ⟨h.sw,h.rt⟩] at c0
 have c1:=pline_con h X Y hX hY
 have hck:=Cu.chk_valid v
 have c2:=Cu.best_con (bh l d c X Y s r)
 rw [Cu.best_ok hck] at c2
 obtain ⟨hOK,_⟩:=Cu.fX v ((Y.2 - Y.1).toNat+2) 0 (by decide) v.len.1 (by show Y.2 - Y.1 - 0+1≤_;omega)
 have hro:=rowOk_of (A:=Y.1) v rfl _ 0 hOK
 have eB:Y.1+(bh l d c X Y s r).len=Y.2:=by show Y.1+(Y.2 - Y.1)=Y.2;omega
 have ek:(bh l d c X Y s r).kerf=s.kerf:=rfl
 have hel:(bh l d c X Y s r).len=Y.2 - Y.1:=rfl
 rw [eB,Int.add_zero,ek] at hro
 have hmem:=oks_mem v _ 0 hOK
 have hsb:=v.size
 change ∀ i (h:i < (aE c).length),1≤(aE c)[i]∧(aE c)[i]≤2000 at hsb
 have hlen:=im (bh l d c X Y s r) ((Y.2 - Y.1).toNat+2) 0
 have hszs:(bh l d c X Y s r).sizes=aE c:=rfl
 rw [hszs] at hmem
 have hsz:∀ x:Cu.bI,aR (bh l d c X Y s r) x.1=(aE c).getD x.1.toNat 0:=fun x=>rfl
 have hX0:=hX
 have hY0:=hY
 obtain ⟨x1,x2,x3⟩:=hX
 obtain ⟨y1,y2,y3⟩:=hY
 obtain ⟨s1,s2,s3,s4,s5,s6,s7,s8⟩:=h.sw
 obtain ⟨r1,r2,r3,r4,r5,r6⟩:=h.rt
 have hT:=ia (k:=s.kerf) (ax:=3) (B:=Y.2) (pPs l d c X Y s r) Y.1
 have c6:=Ge.svolume_con (gl:=Cu.G) l h.ln
 have c7:=volume_con (gl:=Cu.G) l h.ln X Y
 have b6:=Ge.volS_bd l
 have b7:=Ge.cD l X Y (0,aw l)
 have hst:∀ x∈pP l d c X Y s r,∃ (a0:x.1.toNat < (aE c).length) (a:x.1.toNat < (b9 l d c X Y s r).length) (b:x.2.toNat < ((b9 l d c X Y s r)[x.1.toNat]).length),gP (b9 l d c X Y s r) x=(b9 l d c X Y s r)[x.1.toNat][x.2.toNat]∧(gP (b9 l d c X Y s r) x).length≤127∧x.2+(aE c)[x.1.toNat]≤Y.2 - Y.1:=by
  intro x hx
  obtain ⟨m1,m2,m3,m4,m5⟩:=hmem x hx
  rw [hsz,List.getD_eq_getElem?_getD,List.getElem?_eq_getElem m2,Option.getD_some] at m4
  obtain ⟨a,b,e1,e2⟩:=stripN_at (l:=l) (d:=d) (c:=c) (X:=X) (Y:=Y) (s:=s) (r:=r) m2 m4 m3
  exact ⟨m2,a,b,e1,by rw [e2];exact pFnd_len,m4⟩
 unfold pVal at hfit ⊢
 unfold ee
 unfold pPs at hT ⊢
 change bm Tryz.prog Cu.G 22 _ (.tup [LP (pP l d c X Y s r),I (TV (bh l d c X Y s r) 0),I 0]) at c2
 change OKs _ 0 (pP l d c X Y s r) at hOK
 change eK _ _ _ ((pP l d c X Y s r).map _) at hro
 change ∀ x∈pP l d c X Y s r,_ at hmem
 change (pP l d c X Y s r).length≤_ at hlen
 have hspf:∀ x,dE Y.1 (bh l d c X Y s r) x=(Y.1+x.2,Y.1+(x.2+aR (bh l d c X Y s r) x.1)):=fun x=>rfl
 have hlm:0≤r.chip * (ey l - bH l X Y (0,aw l))+1000 * 700000000000∧r.chip * (ey l - bH l X Y (0,aw l))≤1000 * 700000000000:=by
  have m1:=d8 ⟨r1,r2⟩ b6
  have m2:=d8 ⟨r1,r2⟩ b7
  rw [Int.mul_sub];omega
 unfold ef Cu.lineL at c1 c2
 change bm Tryz.prog Cu.G 21 _ (.tup [.agg [I (Y.2 - Y.1),I s.kerf,I 1,LI (aE c),Cu.LL (bh l d c X Y s r).gain,LI (bh l d c X Y s r).chip,LI (bh l d c X Y s r).dust],_]) at c1
 change bm Tryz.prog Cu.G 22 [.agg [I (Y.2 - Y.1),I s.kerf,I 1,LI (aE c),Cu.LL (bh l d c X Y s r).gain,LI (bh l d c X Y s r).chip,LI (bh l d c X Y s r).dust]] _ at c2
 generalize (bh l d c X Y s r).gain=gains at *
 generalize (bh l d c X Y s r).chip=chips at *
 generalize (bh l d c X Y s r).dust=dusts at *
 generalize hND:gP (b9 l d c X Y s r)=ND at *
 generalize b9 l d c X Y s r=ss at *
 generalize hSP:dE Y.1 (bh l d c X Y s r)=SP at *
 generalize hP:pP l d c X Y s r=P at *
 generalize hTV:TV (bh l d c X Y s r) 0=tv at *
 generalize aE c=hs at *
 generalize ey l=vs at *
 generalize bH l X Y (0,aw l)=vw at *
 have hns:((List.zip (P.map SP) (P.map ND)).map (fun x=>x.2.length)).sum≤127 * (List.zip (P.map SP) (P.map ND)).length:=by
  refine sum_le _ fun y hy=>?_
  obtain ⟨_,hy2⟩:=List.of_mem_zip hy
  obtain ⟨x,hx,hxe⟩:=List.mem_map.1 hy2
  obtain ⟨_,_,_,_,e,_⟩:=hst x hx
  rw [← hxe];exact e
 have hzl2:(List.zip (P.map SP) (P.map ND)).length=P.length:=by simp
 have c4:=row_con (gl:=Cu.G) (X,Y) 3 s.kerf (.inr rfl) ⟨s1,s2⟩ hX0 hY0 (P.map SP) (P.map ND) (by simp) (by simp;omega) hro (by show (bS s.kerf 3 Y.2 Y.1 _).length≤_;omega)
 change bm Tryz.prog Cu.G 25 _ (.tup [fY (if (bS s.kerf 3 Y.2 Y.1 (List.zip (P.map SP) (P.map ND))).length≤127 then bS s.kerf 3 Y.2 Y.1 (List.zip (P.map SP) (P.map ND)) else []),I (if (bS s.kerf 3 Y.2 Y.1 (List.zip (P.map SP) (P.map ND))).length≤127 then 0 else 4)]) at c4
 generalize bS s.kerf 3 Y.2 Y.1 (List.zip (P.map SP) (P.map ND))=R at *
 obtain ⟨X1,X2⟩:=X
 obtain ⟨Y1,Y2⟩:=Y
 dsimp only at *
 refine ao Tryz.func7 rfl (by kernel_rfl) rfl ?_
 simp only [Tryz.ntmps7,Tryz.results7,am,ofC,aZ,List.map,swL,rtL]
 repeat' (first
 | ((with_reducible apply (ah (f:=20)));exact rfl;exact rfl;exact c0;exact rfl;exact rfl)
 | ((with_reducible apply (ah (f:=21)));exact rfl;exact rfl;exact c1;exact rfl;exact rfl)
 | ((with_reducible apply (ah (f:=22)));exact rfl;exact rfl;exact c2;exact rfl;exact rfl)
 | (((with_reducible apply aa);exact rfl)<;>intro hg<;>(first|(exact absurd hg (by decide))|((try simp only [qz,ge_iff_le,List.cons.injEq,and_true] at hg);first|(exact absurd trivial hg)|(exfalso;omega)|(have hT:True:=hg;clear hT hg)|skip)))
 | (refine zs ?_)
 | fail
 )
 refine bo 21 35 2 rfl rfl ?_
 refine bo 22 31 1 rfl rfl ?_
 refine au (G:=Nat) (fun (j:Nat)=>j≤P.length) (fun (j:Nat)=>P.length - j) (fun (j:Nat)=>[(0,.c (LL l)),(9,.ptr 0 0),(10,.ptr 1 0),(11,.ptr 2 0),(12,.ptr 3 0),(16,.ptr 4 0),(17,.c (LNdss ss)),(19,A tv),(21,.vec 5 j),(22,.vec 6 j),(57,.c (LP P)),(58,A P.length),(59,A j)]) (fun (j:Nat)=>[(6,some (.vec 31 1 (((P.take j).map ND).flatMap ndsC))),(5,some (.vec 35 2 (((P.take j).map SP).flatMap gw))),(4,some (.cells 68 [A (Y2 - Y1),A s.kerf,A 1,.c (LI hs),.c (Cu.LL gains),.c (LI chips),.c (LI dusts)])),(3,some (.cells 40 [A 0,A 0,A 0,A 0,.c (.v (.slice none 0 0))])),(2,some (.cells 28 [A r.chip,A r.dust,A r.fine])),(1,some (.cells 26 [A s.kerf,A s.trim,A s.pitch,A s.step])),(0,some (.cells 37 [A X1,A X2,A Y1,A Y2]))]) 7 0 ?_ (by refine ak rfl ?_ ?_<;>repeat (first|exact ai|exact ac|refine ae rfl rfl ?_|refine ab rfl rfl rfl ?_)) rfl ?_
 ·exact Nat.zero_le _
 rintro j hI
 try dsimp only at hI
 try dsimp only
 by_cases hj:j < P.length
 ·have l1:((P.take j).map SP).length=j:=by rw [List.length_map,List.length_take];omega
  have l2:((P.take j).map ND).length=j:=by rw [List.length_map,List.length_take];omega
  obtain ⟨m1,m2,m3,m4,m5⟩:=hmem P[j] (List.getElem_mem hj)
  obtain ⟨t0,t1,t2,t3,t4,t5⟩:=hst P[j] (List.getElem_mem hj)
  have hsz2:=hsz P[j]
  have hSPj:=hspf P[j]
  rw [hsz2,List.getD_eq_getElem?_getD,List.getElem?_eq_getElem m2,Option.getD_some] at hSPj
  have hwlo:=hsb _ m2
  have cp:=strip_con (gl:=Cu.G) (X1,X2) (Y1,Y2) P[j].2 (P[j].2+hs[P[j].1.toNat]) ⟨by unfold aQ;dsimp only;omega,by unfold aQ;dsimp only;omega⟩
  repeat' (first
 | (refine aL 10 ?_ ?_;(decide +kernel);(simp only [List.take_succ_cons,List.take_zero,List.drop_succ_cons,List.drop_zero]))
 | (refine aL 16 ?_ ?_;(kernel_rfl);(simp only [List.take_succ_cons,List.take_zero,List.drop_succ_cons,List.drop_zero]))
 | ((with_reducible apply bg);iterate 7 exact rfl)
 | ((with_reducible apply (ah (f:=23)));exact rfl;exact rfl;exact cp;exact rfl;exact rfl)
 | ((with_reducible apply (r_in Tryz.func24 rfl Tryz.results24 (by kernel_rfl) Tryz.ntmps24));iterate 4 exact rfl)
 | ((with_reducible apply co);exact rfl)
 | ((with_reducible apply (aH (enc:=gw) (l2:=[(Y1+P[j].2,Y1+(P[j].2+hs[P[j].1.toNat]))])));exact rfl;exact rfl;exact inferInstance;exact l1;exact rfl;exact (by show _+1 < _;omega);exact (by show (_+1) * _≤_;omega);exact rfl)
 | ((with_reducible apply (aH (enc:=ndsC) (l2:=[ss[P[j].1.toNat][P[j].2.toNat]])));exact rfl;exact rfl;exact inferInstance;exact l2;exact rfl;exact (by show _+1 < _;omega);exact (by show (_+1) * _≤_;omega);exact rfl)
 | (((with_reducible apply aa);exact rfl)<;>intro hg<;>(first|(exact absurd hg (by decide))|((try simp only [qz,ge_iff_le,List.cons.injEq,and_true] at hg);first|(exact absurd trivial hg)|(exfalso;omega)|(have hT:True:=hg;clear hT hg)|skip)))
 | (refine zs ?_)
 | fail
 )
  rw [show (P.take j).map SP++[(Y1+P[j].2,Y1+(P[j].2+hs[P[j].1.toNat]))]=(P.take (j+1)).map SP from by rw [List.take_succ_eq_append_getElem hj,List.map_append,← hSPj];rfl,show (P.take j).map ND++[ss[P[j].1.toNat][P[j].2.toNat]]=(P.take (j+1)).map ND from by rw [List.take_succ_eq_append_getElem hj,List.map_append,← t3];rfl]
  refine ⟨j+1,?_,?_,by refine ak rfl ?_ ?_<;>repeat (first|exact ai|exact ac|refine ae rfl rfl ?_|refine ab rfl rfl rfl ?_)⟩
  ·show P.length - (j+1) < P.length - j;omega
  ·show j+1≤P.length;omega
 ·obtain rfl:j=P.length:=by omega
  rw [List.take_length]
  have l1:(P.map SP).length=P.length:=by rw [List.length_map]
  have l2:(P.map ND).length=P.length:=by rw [List.length_map]
  have f1:aQ (r.chip * (vs - vw)):=by unfold aQ;omega
  by_cases h127:R.length≤127
  ·rw [if_pos h127,if_pos h127] at c4
   rw [if_pos h127]
   repeat' (first
 | (refine aL 10 ?_ ?_;(kernel_rfl);(simp only [List.take_succ_cons,List.take_zero,List.drop_succ_cons,List.drop_zero]))
 | ((with_reducible apply (ck 96));exact rfl;exact rfl;exact (by rw [av EncL.len,l1]))
 | ((with_reducible apply (ck 97));exact rfl;exact rfl;exact (by rw [av EncL.len,l2]))
 | ((with_reducible apply (ah (f:=25)));exact rfl;exact rfl;exact c4;exact rfl;exact rfl)
 | ((with_reducible apply (ah (f:=26)));exact rfl;exact rfl;exact c6;exact rfl;exact rfl)
 | ((with_reducible apply (ah (f:=27)));exact rfl;exact rfl;exact c7;exact rfl;exact rfl)
 | (((with_reducible apply aa);exact rfl)<;>intro hg<;>(first|(exact absurd hg (by decide))|((try simp only [qz,ge_iff_le,List.cons.injEq,and_true] at hg);first|(exact absurd trivial hg)|(exfalso;omega)|(have hT:True:=hg;clear hT hg)|skip)))
 | (refine zs ?_)
 | fail
 )
   all_goals exact bJ (.cons (.cell_a inferInstance rfl rfl rfl rfl (al ap (al ap (al ap (al ap (al ap bj)))))) (.cons (.tmp rfl ap) (.cons (.tmp rfl ap) .nil)))
  ·rw [if_neg h127,if_neg h127] at c4
   rw [if_neg h127]
   repeat' (first
 | ((with_reducible apply (ck 96));exact rfl;exact rfl;exact (by rw [av EncL.len,l1]))
 | ((with_reducible apply (ck 97));exact rfl;exact rfl;exact (by rw [av EncL.len,l2]))
 | ((with_reducible apply (ah (f:=25)));exact rfl;exact rfl;exact c4;exact rfl;exact rfl)
 | (((with_reducible apply aa);exact rfl)<;>intro hg<;>(first|(exact absurd hg (by decide))|((try simp only [qz,ge_iff_le,List.cons.injEq,and_true] at hg);first|(exact absurd trivial hg)|(exfalso;omega)|(have hT:True:=hg;clear hT hg)|skip)))
 | (refine zs ?_)
 | fail
 )
   all_goals exact bJ (.cons (.cell_a inferInstance rfl rfl rfl rfl (al ap (al ap (al ap (al ap (al bP bj)))))) (.cons (.tmp rfl ap) (.cons (.tmp rfl ap) .nil)))
end Go.Proofs.YtdndfncpglfdeaaGreatDoor.Tp

namespace Go.Proofs.YtdndfncpglfdeaaGreatDoor.Tp
set_option linter.unusedVariables false
set_option linter.unusedSimpArgs false
open Go.RowKit Go.Proofs.YtdndfncpglfdeaaGreatDoor.Ev
open Go.Proofs.YtdndfncpglfdeaaGreatDoor.Cu (TV PV OKs aR gOf bC)
open Go.Proofs.YtdndfncpglfdeaaGreatDoor.Ge (an aG Slc Dfc aw bH ey)
noncomputable def bdF (l:List Slc) (d:List Dfc) (c:List Pr) (s:Sw) (fine:Int) (R:aG) (p:Int):Option (Int×Int×Int) :=
 if (wbS l d (fF c p.toNat) R.1 R.2 s.step fine).2.2=true then some ((wbS l d (fF c p.toNat) R.1 R.2 s.step fine).2.1,bH l R.1 R.2 (wbS l d (fF c p.toNat) R.1 R.2 s.step fine).1,trimS l R.1 R.2 s (wbS l d (fF c p.toNat) R.1 R.2 s.step fine).1) else none
noncomputable abbrev gN (l:List Slc) (d:List Dfc) (c:List Pr) (s:Sw) (r:Rt):aG→Tr→Int:=iA (cS l) (bdF l d c s r.fine) r.chip r.dust s.kerf
variable {l:List Slc} {d:List Dfc} {c:List Pr} {s:Sw} {r:Rt}
theorem val_board {R:aG} {p:Int} (h:(bdF l d c s r.fine R p).isSome=true):gN l d c s r R (.leaf (1,p))=eR l d (fF c p.toNat) R.1 R.2 s r:=by
 unfold bdF at h
 show (if (1:Int)=0 then _ else _)=_
 rw [if_neg (by decide)]
 unfold bdF eR cS
 split at h
 ·rename_i hw
  dsimp only
  rw [if_pos hw,if_pos hw]
 ·cases h
theorem gain_some {R:aG} {p:Int} (h:0≤eR l d (fF c p.toNat) R.1 R.2 s r):(bdF l d c s r.fine R p).isSome=true:=by
 unfold eR at h
 unfold bdF
 split at h
 ·rename_i hw
  rw [if_pos hw];rfl
 ·omega
theorem genN_getD {α:Type} (f:Nat→α) (z:α) {n i:Nat} (h:i < n):(aN f n).getD i z=f i:=by
 have hl:i < (aN f n).length:=by rw [aT];exact h
 rw [List.getD_eq_getElem?_getD,List.getElem?_eq_getElem hl,Option.getD_some,dG]
theorem sz_fst (Z:List (Int×Int)) (i:Nat):(Z.map Prod.fst).getD i 0=(Z.getD i (0,0)).1:=by
 simp only [List.getD_eq_getElem?_getD,List.getElem?_map]
 cases Z[i]?<;>rfl
theorem sz_snd (Z:List (Int×Int)) (i:Nat):(Z.map Prod.snd).getD i 0=(Z.getD i (0,0)).2:=by
 simp only [List.getD_eq_getElem?_getD,List.getElem?_map]
 cases Z[i]?<;>rfl
theorem getD_mem {Z:List (Int×Int)} {i:Nat} (h:i < Z.length):Z.getD i (0,0)∈Z:=by
 rw [List.getD_eq_getElem?_getD,List.getElem?_eq_getElem h];exact List.getElem_mem h
theorem sz_szB (hc:prE c=0) {X Y:an} {w p:Int} (h:(w,p)∈cB c (Y.2 - Y.1)) (hw:X.2 - X.1=w):szB c (X,Y) p∧5≤w∧w≤600:=by
 obtain ⟨i,h1,h2,h3,h4,h5⟩:=sz_mem hc c.length (Nat.le_refl _) _ h
 dsimp only at h2 h3 h4 h5
 subst h2
 refine ⟨⟨by omega,by omega,?_⟩,h3,h4⟩
 rw [show ((i:Int)).toNat=i by omega]
 dsimp only
 rcases h5 with ⟨a,b⟩|⟨a,b⟩
 ·exact .inl ⟨by omega,by omega⟩
 ·exact .inr ⟨by omega,by omega⟩
theorem gOf_e {X Y:an} {k q:Int} (hk:k.toNat < (cB c (Y.2 - Y.1)).length) (h0:0≤q) (h1:q+aR (aU l d c X Y s r) k≤X.2 - X.1) :
  gOf (aU l d c X Y s r) k q=f8 l d c X Y s r ((cB c (Y.2 - Y.1)).getD k.toNat (0,0)).1 ((cB c (Y.2 - Y.1)).getD k.toNat (0,0)).2 q.toNat:=by
 have hs:aR (aU l d c X Y s r) k=((cB c (Y.2 - Y.1)).getD k.toNat (0,0)).1:=sz_fst ..
 rw [hs] at h1
 show ((aN (gi l d c X Y s r) (cB c (Y.2 - Y.1)).length).getD k.toNat []).getD q.toNat 0=_
 rw [genN_getD _ _ hk]
 unfold gi
 rw [genN_getD]
 unfold cA;omega
noncomputable def eTs (l:List Slc) (d:List Dfc) (c:List Pr) (X Y:an) (s:Sw) (r:Rt):List (an×Tr) :=
 (eP l d c X Y s r).map fun x=>(dE X.1 (aU l d c X Y s r) x,Tr.leaf (1,((cB c (Y.2 - Y.1)).getD x.1.toNat (0,0)).2))
noncomputable def fx (l:List Slc) (d:List Dfc) (c:List Pr) (X Y:an) (s:Sw) (r:Rt):Tr:=bM s.kerf 2 X.2 X.1 (eTs l d c X Y s r)
theorem eNodes_T (X Y:an):bV l d c X Y s r=aq (fx l d c X Y s r):=by
 unfold bV fx
 rw [← iQ]
 congr 1
 unfold ePs eTs
 rw [List.zip_map',List.map_map]
 refine List.map_congr_left fun x _=>?_
 show (_,nodeP _ x)=(_,aq (.leaf (1,_)))
 unfold nodeP
 rw [sz_snd];rfl
theorem e_chain (h:Hy l d c s r) {X Y:an} (hX:aJ X) (hY:aJ Y):OKs (aU l d c X Y s r) 0 (eP l d c X Y s r)∧PV (aU l d c X Y s r) 0 (eP l d c X Y s r)=TV (aU l d c X Y s r) 0 :=
 Cu.fX (eH h hX hY) ((X.2 - X.1).toNat+2) 0 (by decide) (eH h hX hY).len.1 (by show X.2 - X.1 - 0+1≤_;omega)
theorem e_mem (h:Hy l d c s r) {X Y:an} (hX:aJ X) (hY:aJ Y):∀ x∈eP l d c X Y s r,
  x.1.toNat < (cB c (Y.2 - Y.1)).length∧0≤x.2∧x.2+aR (aU l d c X Y s r) x.1≤X.2 - X.1∧x.2.tmod s.pitch=0 ∧
  aR (aU l d c X Y s r) x.1=((cB c (Y.2 - Y.1)).getD x.1.toNat (0,0)).1 ∧
  szB c (dE X.1 (aU l d c X Y s r) x,Y) ((cB c (Y.2 - Y.1)).getD x.1.toNat (0,0)).2 ∧
  (bdF l d c s r.fine (dE X.1 (aU l d c X Y s r) x,Y) ((cB c (Y.2 - Y.1)).getD x.1.toNat (0,0)).2).isSome=true ∧
  gN l d c s r (dE X.1 (aU l d c X Y s r) x,Y) (.leaf (1,((cB c (Y.2 - Y.1)).getD x.1.toNat (0,0)).2))=gOf (aU l d c X Y s r) x.1 x.2:=by
 intro x hx
 obtain ⟨m1,m2,m3,m4,m5⟩:=oks_mem (eH h hX hY) _ 0 (e_chain h hX hY).1 x hx
 have m2':x.1.toNat < (cB c (Y.2 - Y.1)).length:=by
  have:(aU l d c X Y s r).sizes.length=(cB c (Y.2 - Y.1)).length:=List.length_map ..
  omega
 have m4:x.2+aR (aU l d c X Y s r) x.1≤X.2 - X.1:=m4
 have hg:=gOf_e (l:=l) (d:=d) (s:=s) (r:=r) m2' m3 m4
 have hs:aR (aU l d c X Y s r) x.1=((cB c (Y.2 - Y.1)).getD x.1.toNat (0,0)).1:=sz_fst ..
 rw [hg] at m5
 have hsp:dE X.1 (aU l d c X Y s r) x=(X.1+x.2,X.1+(x.2+((cB c (Y.2 - Y.1)).getD x.1.toNat (0,0)).1)):=by unfold dE;rw [hs]
 have hb:=sz_szB (X:=dE X.1 (aU l d c X Y s r) x) (w:=((cB c (Y.2 - Y.1)).getD x.1.toNat (0,0)).1) (p:=((cB c (Y.2 - Y.1)).getD x.1.toNat (0,0)).2) h.pro (getD_mem m2') (by rw [hsp];dsimp only;omega)
 unfold f8 at m5 hg
 have ht:((x.2.toNat:Nat):Int)=x.2:=Int.toNat_of_nonneg m3
 rw [ht] at m5 hg
 split at m5
 ·rename_i hm
  rw [if_pos hm] at hg
  rw [← hsp] at m5 hg
  have hso:=gain_some (R:=(dE X.1 (aU l d c X Y s r) x,Y)) m5
  exact ⟨m2',m3,m4,hm,hs,hb.1,hso,by rw [val_board hso,hg]⟩
 ·omega
theorem e_rowOk (h:Hy l d c s r) {X Y:an} (hX:aJ X) (hY:aJ Y):eN s.kerf X.2 X.1 (eTs l d c X Y s r):=by
 have hro:=rowOk_of (A:=X.1) (eH h hX hY) rfl _ 0 (e_chain h hX hY).1
 rw [show X.1+(aU l d c X Y s r).len=X.2 by show X.1+(X.2 - X.1)=X.2;omega,Int.add_zero] at hro
 refine rowOk_S ?_
 unfold eTs
 rw [List.map_map]
 exact hro
theorem e_okG (h:Hy l d c s r) {X Y:an} (hX:aJ X) (hY:aJ Y):OkG s.kerf (szB c) (X,Y) (fx l d c X Y s r):=by
 refine row_okG (R:=(X,Y)) h.sw.1 (.inl rfl) _ X.1 (by have:=hX.2.1;omega) (e_rowOk h hX hY) fun y hy=>?_
 unfold eTs at hy
 obtain ⟨x,hx,rfl⟩:=List.mem_map.1 hy
 obtain ⟨_,_,_,_,_,m6,_⟩:=e_mem h hX hY x hx
 exact .inr ⟨rfl,m6⟩
theorem e_val (h:Hy l d c s r) {X Y:an} (hX:aJ X) (hY:aJ Y):gN l d c s r (X,Y) (fx l d c X Y s r)=TV (aU l d c X Y s r) 0:=by
 have hlt:=hX.2.1
 have hv:=row_val (bd:=bdF l d c s r.fine) h.sw.1 (eLine_of l d c X Y s r (by omega)) (eTs l d c X Y s r) X.1 (Int.le_refl _) (Int.le_of_lt hlt) (e_rowOk h hX hY)
 have e:(eTs l d c X Y s r).map (ft (cS l) (bdF l d c s r.fine) r.chip r.dust s.kerf 2 (X,Y))=iG (aU l d c X Y s r) (eP l d c X Y s r):=by
  unfold eTs iG
  rw [List.map_map]
  refine List.map_congr_left fun x hx=>?_
  obtain ⟨_,_,_,_,_,_,_,m8⟩:=e_mem h hX hY x hx
  show (X.1+x.2 - X.1,X.1+(x.2+aR (aU l d c X Y s r) x.1) - X.1,gN l d c s r (dE X.1 (aU l d c X Y s r) x,Y) _)=_
  rw [m8,show X.1+x.2 - X.1=x.2 by omega,show X.1+(x.2+aR (aU l d c X Y s r) x.1) - X.1=x.2+aR (aU l d c X Y s r) x.1 by omega]
 rw [e,pvg_of] at hv
 have hv2:gN l d c s r (X,Y) (fx l d c X Y s r)=PV (aU l d c X Y s r) (X.1 - X.1) (eP l d c X Y s r):=hv
 rw [hv2,Int.sub_self,(e_chain h hX hY).2]
theorem bdF_bd (h:Hy l d c s r) (R:aG) (p:Int) (x:Int×Int×Int) (hx:bdF l d c s r.fine R p=some x):0≤x.1∧x.1≤1000000∧0≤x.2.1∧0≤x.2.2∧x.2.1+x.2.2≤cS l R:=by
 unfold bdF at hx
 split at hx
 ·rename_i hw
  have hpr:∀ q∈(fF c p.toNat).prices,0≤q∧q≤1000000:=by
   by_cases hc:p.toNat < c.length
   ·exact (prE_V h.pro hc).prices.2
   ·have:fF c p.toNat=pr0:=by unfold fF;rw [List.getD_eq_getElem?_getD,List.getElem?_eq_none (by omega)];rfl
    rw [this];intro q hq;cases hq
  obtain ⟨k1,k2,k3⟩:=outB_ok (v:=vwOf l d (fF c p.toNat) R.1 R.2) (step:=s.step) h.rt.2.2.2.2.1 hpr _ 0 (b:=((0,0),0,false)) (fun h=>by cases h) hw
  have ht:=trim_bd h.sol R.1 R.2 h.sw.2.2.1 k1
  injection hx with hx
  subst hx
  exact ⟨k2,k3,ht.2.1,ht.1,ht.2.2⟩
 ·cases hx
theorem volR_nn (R:aG):0≤cS l R∧cS l R≤700000000000:=Ge.cD l R.1 R.2 (0,aw l)
theorem valP_le (h:Hy l d c s r) {B:aG→Int→Prop} {R:aG} {t:Tr} (ht:OkG s.kerf B R t):0≤gN l d c s r R t∧gN l d c s r R t≤1000000000000 * (aq t).length+700000000000000:=by
 have:=val_le ⟨h.rt.1,h.rt.2.1⟩ ⟨h.rt.2.2.1,h.rt.2.2.2.1⟩ (fun R=>(volR_nn (l:=l) R).1) (bdF_bd h) (addV_win l h.sw.1) t R ht
 have hv:=(volR_nn (l:=l) R).2
 unfold gN
 omega
theorem e_bd (h:Hy l d c s r) {X Y:an} (hX:aJ X) (hY:aJ Y) (hn:(bV l d c X Y s r).length≤127):0≤TV (aU l d c X Y s r) 0∧TV (aU l d c X Y s r) 0≤900000000000000:=by
 rw [eNodes_T] at hn
 rw [← e_val h hX hY]
 have:=valP_le h (e_okG h hX hY)
 omega
end Go.Proofs.YtdndfncpglfdeaaGreatDoor.Tp

namespace Go.Proofs.YtdndfncpglfdeaaGreatDoor.Tp
set_option linter.unusedVariables false
set_option linter.unusedSimpArgs false
open Go.RowKit Go.Proofs.YtdndfncpglfdeaaGreatDoor.Ev
open Go.Proofs.YtdndfncpglfdeaaGreatDoor.Cu (TV PV OKs aR gOf bC)
open Go.Proofs.YtdndfncpglfdeaaGreatDoor.Ge (an aG Slc Dfc aw bH ey)
variable {l:List Slc} {d:List Dfc} {c:List Pr} {s:Sw} {r:Rt}
theorem strip_acr {Y:an} (hY:aJ Y) {q h:Int} (h0:0≤q) (h1:5≤h) (h2:q+h≤Y.2 - Y.1):aJ (Y.1+q,Y.1+(q+h)):=by
 obtain ⟨y1,y2,y3⟩:=hY
 exact ⟨by dsimp only;omega,by dsimp only;omega,by dsimp only;omega⟩
theorem pRow_bd (h:Hy l d c s r) {X Y:an} (hX:aJ X) (hY:aJ Y) {w:Int} (hw:5≤w) {p:Nat} (hp:(p:Int)+w≤Y.2 - Y.1):-1≤ei l d c X Y s r w p∧ei l d c X Y s r w p≤900000000000000:=by
 unfold ei
 split
 ·rename_i hk
  have:=e_bd h hX (strip_acr hY (by omega) hw hp) hk.2.1
  omega
 ·decide
theorem h_getD {i:Nat} (hi:i < (aE c).length):(aE c).getD i 0=(aE c)[i]:=by
 rw [List.getD_eq_getElem?_getD,List.getElem?_eq_getElem hi];rfl
theorem dg (h:Hy l d c s r) {X Y:an} (hX:aJ X) (hY:aJ Y):Cu.Valid (bh l d c X Y s r):=by
 have hbd:=heights_bd h.pro
 have hl:=heights_len c
 have hcl:=cU h.pro
 have hY0:=hY
 obtain ⟨y1,y2,y3⟩:=hY
 obtain ⟨s1,s2,s3,s4,s5,s6,s7,s8⟩:=h.sw
 obtain ⟨r1,r2,r3,r4,r5,r6⟩:=h.rt
 have hwood:∀ k p,0≤k→k≤1000→-1125899906842624≤dW l X Y k p∧dW l X Y k p≤1125899906842624:=by
  intro k p k0 k1
  have:=d8 ⟨k0,k1⟩ (Ge.cD l X (Y.1+(p:Int),Y.1+((p:Int)+1)) (0,aw l))
  unfold dW;omega
 refine ⟨?_,⟨s1,s2⟩,?_,?_,?_,?_,?_,?_,?_,?_,?_,?_⟩
 ·show 0≤Y.2 - Y.1∧Y.2 - Y.1≤2000;omega
 ·show (1:Int)≤1∧(1:Int)≤2000;decide
 ·show (aE c).length≤32;omega
 ·intro i hi
  have:=hbd _ (List.getElem_mem (l:=aE c) hi)
  show 1≤(aE c)[i]∧(aE c)[i]≤2000
  exact ⟨by omega,by omega⟩
 ·show (aN _ _).length=(aE c).length
  rw [aT]
 ·show ((aN _ _).length:Int)=Y.2 - Y.1
  rw [aT];omega
 ·show ((aN _ _).length:Int)=Y.2 - Y.1
  rw [aT];omega
 ·intro i hi hi2
  have hi2':i < (aE c).length:=hi2
  have e:(bh l d c X Y s r).gain[i]=fG l d c X Y s r i:=dG _ _
  rw [e]
  show _=max 0 (Y.2 - Y.1 - (aE c)[i]+1)
  unfold fG
  rw [aT,h_getD hi2']
  unfold cA;omega
 ·intro i hi j hj
  have hi3:i < (aE c).length:=by have h9:=hi;unfold bh at h9;dsimp only at h9;rw [aT] at h9;exact h9
  have e:(bh l d c X Y s r).gain[i]=fG l d c X Y s r i:=dG _ _
  have hj2:j < (fG l d c X Y s r i).length:=by rw [← e];exact hj
  have e2:((bh l d c X Y s r).gain[i])[j]=(fG l d c X Y s r i)[j]:=by congr 1
  rw [e2]
  unfold fG at hj2 ⊢
  rw [dG]
  rw [aT] at hj2
  rw [h_getD hi3] at hj2 ⊢
  have:=pRow_bd h hX hY0 (hbd _ (List.getElem_mem hi3)).1 (p:=j) (by unfold cA at hj2;omega)
  omega
 ·intro i hi
  have e:(bh l d c X Y s r).chip[i]=dW l X Y r.chip i:=dG _ _
  rw [e];exact hwood _ _ r1 r2
 ·intro i hi
  have e:(bh l d c X Y s r).dust[i]=dW l X Y r.dust i:=dG _ _
  rw [e];exact hwood _ _ r3 r4
theorem gOf_p {X Y:an} {k q:Int} (hk:k.toNat < (aE c).length) (h0:0≤q) (h1:q+aR (bh l d c X Y s r) k≤Y.2 - Y.1) :
  gOf (bh l d c X Y s r) k q=ei l d c X Y s r (aR (bh l d c X Y s r) k) q.toNat:=by
 have hs:aR (bh l d c X Y s r) k=(aE c).getD k.toNat 0:=rfl
 rw [hs] at h1 ⊢
 show ((aN (fG l d c X Y s r) (aE c).length).getD k.toNat []).getD q.toNat 0=_
 rw [genN_getD _ _ hk]
 unfold fG
 rw [genN_getD]
 unfold cA;omega
theorem p_chain (h:Hy l d c s r) {X Y:an} (hX:aJ X) (hY:aJ Y):OKs (bh l d c X Y s r) 0 (pP l d c X Y s r)∧PV (bh l d c X Y s r) 0 (pP l d c X Y s r)=TV (bh l d c X Y s r) 0 :=
 Cu.fX (dg h hX hY) ((Y.2 - Y.1).toNat+2) 0 (by decide) (dg h hX hY).len.1 (by show Y.2 - Y.1 - 0+1≤_;omega)
noncomputable abbrev dV (l:List Slc) (d:List Dfc) (c:List Pr) (X Y:an) (s:Sw) (r:Rt) (x:Cu.bI):an:=dE Y.1 (bh l d c X Y s r) x
theorem p_mem (h:Hy l d c s r) {X Y:an} (hX:aJ X) (hY:aJ Y):∀ x∈pP l d c X Y s r,
  x.1.toNat < (aE c).length∧0≤x.2∧x.2+aR (bh l d c X Y s r) x.1≤Y.2 - Y.1∧x.2.tmod s.pitch=0 ∧
  aR (bh l d c X Y s r) x.1∈aE c∧aJ (dV l d c X Y s r x)∧(bV l d c X (dV l d c X Y s r x) s r).length≤127 ∧
  (bV l d c X (dV l d c X Y s r x) s r).any dz=true ∧
  gOf (bh l d c X Y s r) x.1 x.2=TV (aU l d c X (dV l d c X Y s r x) s r) 0 ∧
  gP (b9 l d c X Y s r) x=bV l d c X (dV l d c X Y s r x) s r:=by
 intro x hx
 obtain ⟨m1,m2,m3,m4,m5⟩:=oks_mem (dg h hX hY) _ 0 (p_chain h hX hY).1 x hx
 have m2':x.1.toNat < (aE c).length:=m2
 have hsz:aR (bh l d c X Y s r) x.1=(aE c)[x.1.toNat]:=h_getD m2'
 have hg:=gOf_p (l:=l) (d:=d) (s:=s) (r:=r) m2' m3 m4
 have hw:=heights_bd h.pro _ (List.getElem_mem m2')
 have m4':x.2+(aE c)[x.1.toNat]≤Y.2 - Y.1:=by rw [← hsz];exact m4
 obtain ⟨_,_,_,hst⟩:=stripN_at (l:=l) (d:=d) (X:=X) (Y:=Y) (s:=s) (r:=r) (x:=x) m2' m4' m3
 have ht:((x.2.toNat:Nat):Int)=x.2:=Int.toNat_of_nonneg m3
 have hsp:dV l d c X Y s r x=(Y.1+x.2,Y.1+(x.2+(aE c)[x.1.toNat])):=by show dE _ _ _=_;unfold dE;rw [hsz]
 rw [hg] at m5
 rw [hsz] at m5 hg
 unfold ei at m5 hg
 split at m5
 ·rename_i hk
  rw [if_pos hk] at hg
  unfold eU at hst
  rw [if_pos hk] at hst
  obtain ⟨k1,k2,k3⟩:=hk
  rw [ht] at k1 k2 k3 hg hst
  rw [hsp]
  exact ⟨m2',m3,m4,k1,by rw [hsz];exact List.getElem_mem m2',strip_acr hY m3 hw.1 m4',k2,k3,hg,hst⟩
 ·omega
noncomputable def pTs (l:List Slc) (d:List Dfc) (c:List Pr) (X Y:an) (s:Sw) (r:Rt):List (an×Tr) :=
 (pP l d c X Y s r).map fun x=>(dV l d c X Y s r x,fx l d c X (dV l d c X Y s r x) s r)
noncomputable def pTree (l:List Slc) (d:List Dfc) (c:List Pr) (X Y:an) (s:Sw) (r:Rt):Tr:=bM s.kerf 3 Y.2 Y.1 (pTs l d c X Y s r)
theorem ga (h:Hy l d c s r) {X Y:an} (hX:aJ X) (hY:aJ Y):ee l d c X Y s r=aq (pTree l d c X Y s r):=by
 unfold ee pTree
 rw [← iQ]
 congr 1
 unfold pPs pTs
 rw [List.zip_map',List.map_map]
 refine List.map_congr_left fun x hx=>?_
 obtain ⟨_,_,_,_,_,_,_,_,_,m⟩:=p_mem h hX hY x hx
 show (_,gP _ x)=(_,aq _)
 rw [m,eNodes_T]
theorem p_rowOk (h:Hy l d c s r) {X Y:an} (hX:aJ X) (hY:aJ Y):eN s.kerf Y.2 Y.1 (pTs l d c X Y s r):=by
 have hro:=rowOk_of (A:=Y.1) (dg h hX hY) rfl _ 0 (p_chain h hX hY).1
 rw [show Y.1+(bh l d c X Y s r).len=Y.2 by show Y.1+(Y.2 - Y.1)=Y.2;omega,Int.add_zero] at hro
 refine rowOk_S ?_
 unfold pTs
 rw [List.map_map]
 exact hro
theorem p_okG (h:Hy l d c s r) {X Y:an} (hX:aJ X) (hY:aJ Y):OkG s.kerf (szB c) (X,Y) (pTree l d c X Y s r):=by
 refine row_okG (R:=(X,Y)) h.sw.1 (.inr rfl) _ Y.1 (by have:=hY.2.1;omega) (p_rowOk h hX hY) fun y hy=>?_
 unfold pTs at hy
 obtain ⟨x,hx,rfl⟩:=List.mem_map.1 hy
 obtain ⟨_,_,_,_,_,m6,_⟩:=p_mem h hX hY x hx
 exact e_okG h hX m6
theorem p_val (h:Hy l d c s r) {X Y:an} (hX:aJ X) (hY:aJ Y):gN l d c s r (X,Y) (pTree l d c X Y s r)=TV (bh l d c X Y s r) 0:=by
 have hlt:=hY.2.1
 have hv:=row_val (bd:=bdF l d c s r.fine) h.sw.1 (pLine_of l d c X Y s r (by omega)) (pTs l d c X Y s r) Y.1 (Int.le_refl _) (Int.le_of_lt hlt) (p_rowOk h hX hY)
 have e:(pTs l d c X Y s r).map (ft (cS l) (bdF l d c s r.fine) r.chip r.dust s.kerf 3 (X,Y))=iG (bh l d c X Y s r) (pP l d c X Y s r):=by
  unfold pTs iG
  rw [List.map_map]
  refine List.map_congr_left fun x hx=>?_
  obtain ⟨_,_,_,_,_,m6,_,_,m9,_⟩:=p_mem h hX hY x hx
  show (Y.1+x.2 - Y.1,Y.1+(x.2+aR (bh l d c X Y s r) x.1) - Y.1,gN l d c s r (X,dV l d c X Y s r x) _)=_
  rw [e_val h hX m6,m9,show Y.1+x.2 - Y.1=x.2 by omega,show Y.1+(x.2+aR (bh l d c X Y s r) x.1) - Y.1=x.2+aR (bh l d c X Y s r) x.1 by omega]
 rw [e,pvg_of] at hv
 have hv2:gN l d c s r (X,Y) (pTree l d c X Y s r)=PV (bh l d c X Y s r) (Y.1 - Y.1) (pP l d c X Y s r):=hv
 rw [hv2,Int.sub_self,(p_chain h hX hY).2]
theorem p_len (h:Hy l d c s r) {X Y:an} (hX:aJ X) (hY:aJ Y):(aq (pTree l d c X Y s r)).length≤200000:=by
 rw [← ga h hX hY]
 have hT:=ia (k:=s.kerf) (ax:=3) (B:=Y.2) (pPs l d c X Y s r) Y.1
 have hlen:=im (bh l d c X Y s r) ((Y.2 - Y.1).toNat+2) 0
 change (pP l d c X Y s r).length≤_ at hlen
 have hns:((pPs l d c X Y s r).map (fun x=>x.2.length)).sum≤127 * (pPs l d c X Y s r).length:=by
  refine sum_le _ fun y hy=>?_
  unfold pPs at hy
  obtain ⟨_,hy2⟩:=List.of_mem_zip hy
  obtain ⟨x,hx,hxe⟩:=List.mem_map.1 hy2
  obtain ⟨_,_,_,_,_,_,m7,_,_,m⟩:=p_mem h hX hY x hx
  rw [← hxe,m];exact m7
 have hl:(pPs l d c X Y s r).length=(pP l d c X Y s r).length:=by unfold pPs;simp
 have h1:=hY.1
 have h2:=hY.2.1
 have h3:=hY.2.2
 unfold ee
 omega
theorem p_fits (h:Hy l d c s r) {X Y:an} (hX:aJ X) (hY:aJ Y):aQ (pVal l d c X Y s r):=by
 have h1:=valP_le h (p_okG h hX hY)
 rw [p_val h hX hY] at h1
 have h2:=p_len h hX hY
 have m1:=d8 ⟨h.rt.1,h.rt.2.1⟩ (Ge.volS_bd l)
 have m2:=d8 ⟨h.rt.1,h.rt.2.1⟩ (Ge.cD l X Y (0,aw l))
 unfold pVal
 rw [Int.mul_sub]
 unfold aQ
 omega
theorem sum_bd {g:Yc→Int} {f:aG×Int→Int} {fine:Int} {lv:List (aG×Int)} (hgf:∀ i x,cz g (bd1 l d c s fine i x)=f x):∀ n,n≤lv.length→cz g (bdN l d c s fine lv n)=cz f (lv.take n)
 | 0,_=>by rw [List.take_zero];rfl
 | n+1,hn=>by
  rw [bdN,List.getElem?_eq_getElem (by omega),sumI_app,sum_bd hgf n (by omega),gc _ _ (by omega)]
  dsimp only
  rw [hgf]
theorem yVal_eq (h:Hy l d c s r) {X Y:an} {T:Tr} (hT:OkG s.kerf (szB c) (X,Y) T) :
  yVal l s r (cG s.kerf (X,Y) T) (bdN l d c s r.fine (aC s.kerf (X,Y) T) (aC s.kerf (X,Y) T).length)=gN l d c s r (X,Y) T+r.chip * (ey l - bH l X Y (0,aw l)):=by
 have hv:=val_eq (cS l) (bdF l d c s r.fine) r.chip r.dust (B:=szB c) (fun r p hb=>hb.1) (addV_win l h.sw.1) T (X,Y) hT
 have e1:=fun n hn=>sum_bd (l:=l) (d:=d) (c:=c) (s:=s) (fine:=r.fine) (lv:=aC s.kerf (X,Y) T) (g:=ptsV) (f:=fun x=>1000000 * (fH (bdF l d c s r.fine) x).1) (fun i x=>by
  unfold bd1 fH bdF
  split
  ·rfl
  ·split
   ·rw [dS,gg,Int.add_zero];rfl
   ·rfl) n hn
 have e2:=fun n hn=>sum_bd (l:=l) (d:=d) (c:=c) (s:=s) (fine:=r.fine) (lv:=aC s.kerf (X,Y) T) (g:=brdB l) (f:=fun x=>(fH (bdF l d c s r.fine) x).2.1) (fun i x=>by
  unfold bd1 fH bdF
  split
  ·rfl
  ·split
   ·rw [dS,gg,Int.add_zero];rfl
   ·rfl) n hn
 have e3:=fun n hn=>sum_bd (l:=l) (d:=d) (c:=c) (s:=s) (fine:=r.fine) (lv:=aC s.kerf (X,Y) T) (g:=brdD l s) (f:=fun x=>(fH (bdF l d c s r.fine) x).2.2) (fun i x=>by
  unfold bd1 fH bdF
  split
  ·rfl
  ·split
   ·rw [dS,gg,Int.add_zero];rfl
   ·rfl) n hn
 have e1:=e1 _ (Nat.le_refl _)
 have e2:=e2 _ (Nat.le_refl _)
 have e3:=e3 _ (Nat.le_refl _)
 rw [List.take_length] at e1 e2 e3
 have em:∀ (L:List (aG×Int)),cz (fun x=>1000000 * (fH (bdF l d c s r.fine) x).1) L=1000000 * cz (fun x=>(fH (bdF l d c s r.fine) x).1) L:=by
  intro L
  induction L with
  | nil=>rfl
  | cons x L ih=>rw [dS,dS,ih,Int.mul_add]
 rw [em] at e1
 unfold gN
 rw [hv]
 unfold yVal yChips yDust dustT
 rw [e1,e2,e3]
 rw [show cz (cutD l) (cG s.kerf (X,Y) T)=cz (cS l) (cG s.kerf (X,Y) T) from rfl,show bH l X Y (0,aw l)=cS l (X,Y) from rfl]
 generalize cz (cS l) (cG s.kerf (X,Y) T)=A1
 generalize cz (fun x=>(fH (bdF l d c s r.fine) x).1) (aC s.kerf (X,Y) T)=A2
 generalize cz (fun x=>(fH (bdF l d c s r.fine) x).2.1) (aC s.kerf (X,Y) T)=A3
 generalize cz (fun x=>(fH (bdF l d c s r.fine) x).2.2) (aC s.kerf (X,Y) T)=A4
 generalize cS l (X,Y)=A5
 generalize ey l=A6
 simp only [Int.mul_sub,Int.mul_add]
 omega
theorem p_yield (h:Hy l d c s r) {X Y:an} (hX:aJ X) (hY:aJ Y) :
  yVal l s r (cG s.kerf (X,Y) (pTree l d c X Y s r)) (bdN l d c s r.fine (aC s.kerf (X,Y) (pTree l d c X Y s r)) (aC s.kerf (X,Y) (pTree l d c X Y s r)).length)=pVal l d c X Y s r:=by
 rw [yVal_eq h (p_okG h hX hY),p_val h hX hY];rfl
end Go.Proofs.YtdndfncpglfdeaaGreatDoor.Tp

namespace Go.Proofs.YtdndfncpglfdeaaGreatDoor.Tp
set_option linter.unusedVariables false
set_option linter.unusedSimpArgs false
open Go.RowKit Go.Proofs.YtdndfncpglfdeaaGreatDoor.Ev
open Go.Proofs.YtdndfncpglfdeaaGreatDoor.Cu (I LI ce fP)
variable {gl:List (Nat×List CV)}
theorem any_no {l:List Pr} {j:Nat} (hj:j≤l.length) {f:Pr→Bool} (h:∀ i (hi:i < j),f (l[i]'(by omega))=false):¬ ((l.take j).any f)=true:=by
 intro ha
 obtain ⟨x,hx,hf⟩:=List.any_eq_true.1 ha
 obtain ⟨i,hi,rfl⟩:=List.getElem_of_mem hx
 rw [List.length_take] at hi
 have:=h i (by omega)
 rw [List.getElem_take] at hf
 rw [this] at hf;cases hf
theorem any_yes {l:List Pr} {j k:Nat} (hk:k < j) (hl:k < l.length) {f:Pr→Bool} (h:f l[k]=true):((l.take j).any f)=true :=
 List.any_eq_true.2 ⟨l[k],by
  have:(l.take j)[k]?=some l[k]:=by rw [List.getElem?_take,if_pos hk,List.getElem?_eq_getElem hl]
  exact List.mem_of_getElem? this,h⟩
theorem rpcheck_con (l:List Pr):bm Tryz.prog gl 29 [fj l] (I (prE l)):=by
 unfold prE
 by_cases h0:l.length > 16
 ·rw [if_pos h0]
  refine ao Tryz.func29 rfl (by kernel_rfl) rfl ?_
  simp only [Tryz.ntmps29,Tryz.results29,am,ofC,aZ,List.map]
  repeat' (first
 | (((with_reducible apply aa);exact rfl)<;>intro hg<;>(first|(exact absurd hg (by decide))|((try simp only [qz,ge_iff_le,List.cons.injEq,and_true] at hg);first|(exact absurd trivial hg)|(exfalso;omega)|(have hT:True:=hg;clear hT hg)|skip)))
 | (refine zs ?_)
 | fail
 )
  all_goals exact aB rfl rfl
 rw [if_neg h0]
 refine ao Tryz.func29 rfl (by kernel_rfl) rfl ?_
 simp only [Tryz.ntmps29,Tryz.results29,am,ofC,aZ,List.map]
 repeat' (first
 | (((with_reducible apply aa);exact rfl)<;>intro hg<;>(first|(exact absurd hg (by decide))|((try simp only [qz,ge_iff_le,List.cons.injEq,and_true] at hg);first|(exact absurd trivial hg)|(exfalso;omega)|(have hT:True:=hg;clear hT hg)|skip)))
 | (refine zs ?_)
 | fail
 )
 refine au (G:=Nat) (fun (j:Nat)=>j≤l.length∧prG [] l=prG (l.take j) (l.drop j)) (fun (j:Nat)=>l.length - j) (fun (j:Nat)=>[(0,.c (fj l)),(3,A j)]) (fun (j:Nat)=>[]) 0 0 ?_ (by refine ak rfl ?_ ?_<;>repeat (first|exact ai|exact ac|refine ae rfl rfl ?_|refine ab rfl rfl rfl ?_)) rfl ?_
 ·exact ⟨Nat.zero_le _,rfl⟩
 rintro j hI
 try dsimp only at hI
 try dsimp only
 obtain ⟨hj,hp⟩:=hI
 by_cases hjl:j < l.length
 rotate_left
 ·rw [hp,List.drop_eq_nil_of_le (by omega)]
  repeat' (first
 | (((with_reducible apply aa);exact rfl)<;>intro hg<;>(first|(exact absurd hg (by decide))|((try simp only [qz,ge_iff_le,List.cons.injEq,and_true] at hg);first|(exact absurd trivial hg)|(exfalso;omega)|(have hT:True:=hg;clear hT hg)|skip)))
 | (refine zs ?_)
 | fail
 )
  all_goals exact aB rfl rfl
 have c1:=Ge.risName_con (gl:=gl) l[j].name
 have c2:=iD (gl:=gl) l[j]
 have c3:=rlens_con (gl:=gl) l[j]
 by_cases h1:Ge.eT l[j].name=false
 ·rw [h1] at c1
  rw [hp,prG_name hjl h1]
  repeat' (first
 | ((with_reducible apply (ah (f:=67)));exact rfl;exact rfl;exact c1;exact rfl;exact rfl)
 | (((with_reducible apply aa);exact rfl)<;>intro hg<;>(first|(exact absurd hg (by decide))|((try simp only [qz,ge_iff_le,List.cons.injEq,and_true] at hg);first|(exact absurd trivial hg)|(exfalso;omega)|(have hT:True:=hg;clear hT hg)|skip)))
 | (refine zs ?_)
 | fail
 )
  all_goals exact aB rfl rfl
 have h1':Ge.eT l[j].name=true:=by simpa using h1
 rw [h1'] at c1
 repeat' (first
 | ((with_reducible apply (ah (f:=67)));exact rfl;exact rfl;exact c1;exact rfl;exact rfl)
 | (((with_reducible apply aa);exact rfl)<;>intro hg<;>(first|(exact absurd hg (by decide))|((try simp only [qz,ge_iff_le,List.cons.injEq,and_true] at hg);first|(exact absurd trivial hg)|(exfalso;omega)|(have hT:True:=hg;clear hT hg)|skip)))
 | (refine zs ?_)
 | fail
 )
 refine au (G:=Nat) (fun (k:Nat)=>k≤j∧∀ i (hi:i < k) (hl:i < l.length),eO l[i] l[j].name=false) (fun (k:Nat)=>j - k) (fun (k:Nat)=>[(0,.c (fj l)),(3,A j),(4,.ptr 0 0),(5,A k)]) (fun (k:Nat)=>[(0,some (prB l[j]))]) 1 0 ?_ (by refine ak rfl ?_ ?_<;>repeat (first|exact ai|exact ac|refine ae rfl rfl ?_|refine ab rfl rfl rfl ?_)) rfl ?_
 ·exact ⟨Nat.zero_le _,fun i hi=>absurd hi (Nat.not_lt_zero _)⟩
 rintro k hI
 try dsimp only at hI
 try dsimp only
 obtain ⟨hk,hI⟩:=hI
 by_cases hkj:k < j
 ·by_cases hs:eO (l[k]'(by omega)) l[j].name=true
  ·have hs':((l[k]'(by omega)).name.toList == l[j].name.toList)=true:=hs
   rw [hp,prG_dup hjl h1 (any_yes hkj (by omega) hs)]
   repeat' (first
 | ((with_reducible apply r_eqstr);(iterate 3 exact rfl);rw [hs'])
 | (((with_reducible apply aa);exact rfl)<;>intro hg<;>(first|(exact absurd hg (by decide))|((try simp only [qz,ge_iff_le,List.cons.injEq,and_true] at hg);first|(exact absurd trivial hg)|(exfalso;omega)|(have hT:True:=hg;clear hT hg)|skip)))
 | (refine zs ?_)
 | fail
 )
   all_goals exact aB rfl rfl
  ·have hs':((l[k]'(by omega)).name.toList == l[j].name.toList)=false:=by simpa [eO] using hs
   repeat' (first
 | ((with_reducible apply r_eqstr);(iterate 3 exact rfl);rw [hs'])
 | (((with_reducible apply aa);exact rfl)<;>intro hg<;>(first|(exact absurd hg (by decide))|((try simp only [qz,ge_iff_le,List.cons.injEq,and_true] at hg);first|(exact absurd trivial hg)|(exfalso;omega)|(have hT:True:=hg;clear hT hg)|skip)))
 | (refine zs ?_)
 | fail
 )
   refine ⟨k+1,?_,?_,by refine ak rfl ?_ ?_<;>repeat (first|exact ai|exact ac|refine ae rfl rfl ?_|refine ab rfl rfl rfl ?_)⟩
   ·omega
   ·refine ⟨by omega,fun i hi hl=>?_⟩
    by_cases e:i=k
    ·subst e;exact hs'
    ·exact hI i (by omega) hl
 obtain rfl:k=j:=by omega
 have h2:=any_no (f:=fun q=>eO q l[k].name) (Nat.le_of_lt hjl) (fun i hi=>hI i hi (by omega))
 by_cases g1:l[k].thick < 5∨l[k].thick > 300∨l[k].width < l[k].thick∨l[k].width > 600
 ·have e:dY l[k]=9:=by unfold dY;rw [if_pos g1]
  rw [hp,iU hjl h1 h2 (by rw [e];decide),e]
  repeat' (first
 | ((first|((with_reducible apply aj);iterate 4 exact rfl)|((with_reducible apply aa);exact rfl))<;>intro hg<;>(first|(exact absurd hg (by decide))|((try simp only [qz,ge_iff_le,List.cons.injEq,and_true] at hg);first|(exact absurd trivial hg)|(exfalso;omega)|(have hT:True:=hg;clear hT hg)|skip)))
 | (refine zs ?_)
 | fail
 )
  all_goals exact aB rfl rfl
 by_cases g2:l[k].allow < 0∨l[k].allow > 200∨l[k].wane < 0∨l[k].wane > 1000
 ·have e:dY l[k]=9:=by unfold dY;rw [if_neg g1,if_pos g2]
  rw [hp,iU hjl h1 h2 (by rw [e];decide),e]
  repeat' (first
 | ((first|((with_reducible apply aj);iterate 4 exact rfl)|((with_reducible apply aa);exact rfl))<;>intro hg<;>(first|(exact absurd hg (by decide))|((try simp only [qz,ge_iff_le,List.cons.injEq,and_true] at hg);first|(exact absurd trivial hg)|(exfalso;omega)|(have hT:True:=hg;clear hT hg)|skip)))
 | (refine zs ?_)
 | fail
 )
  all_goals exact aB rfl rfl
 by_cases g3:(aW l[k]).2 > 600
 ·have e:dY l[k]=9:=by unfold dY;rw [if_neg g1,if_neg g2,if_pos g3]
  rw [hp,iU hjl h1 h2 (by rw [e];decide),e]
  repeat' (first
 | ((with_reducible apply (ah (f:=68)));exact rfl;exact rfl;exact c2;exact rfl;exact rfl)
 | ((first|((with_reducible apply aj);iterate 4 exact rfl)|((with_reducible apply aa);exact rfl))<;>intro hg<;>(first|(exact absurd hg (by decide))|((try simp only [qz,ge_iff_le,List.cons.injEq,and_true] at hg);first|(exact absurd trivial hg)|(exfalso;omega)|(have hT:True:=hg;clear hT hg)|skip)))
 | (refine zs ?_)
 | fail
 )
  all_goals exact aB rfl rfl
 have e:dY l[k]=lenE l[k]:=by unfold dY;rw [if_neg g1,if_neg g2,if_neg g3]
 by_cases g4:lenE l[k]=0
 ·rw [g4] at c3
  repeat' (first
 | ((with_reducible apply (ah (f:=68)));exact rfl;exact rfl;exact c2;exact rfl;exact rfl)
 | ((with_reducible apply (ah (f:=69)));exact rfl;exact rfl;exact c3;exact rfl;exact rfl)
 | ((first|((with_reducible apply aj);iterate 4 exact rfl)|((with_reducible apply aa);exact rfl))<;>intro hg<;>(first|(exact absurd hg (by decide))|((try simp only [qz,ge_iff_le,List.cons.injEq,and_true] at hg);first|(exact absurd trivial hg)|(exfalso;omega)|(have hT:True:=hg;clear hT hg)|skip)))
 | (refine zs ?_)
 | fail
 )
  refine ⟨k+1,?_,?_,by refine ak rfl ?_ ?_<;>repeat (first|exact ai|exact ac|refine ae rfl rfl ?_|refine ab rfl rfl rfl ?_)⟩
  ·omega
  ·exact ⟨by omega,by rw [hp];exact prG_next hjl h1 h2 (by rw [e];exact g4)⟩
 ·rw [hp,iU hjl h1 h2 (by rw [e];exact g4),e]
  repeat' (first
 | ((with_reducible apply (ah (f:=68)));exact rfl;exact rfl;exact c2;exact rfl;exact rfl)
 | ((with_reducible apply (ah (f:=69)));exact rfl;exact rfl;exact c3;exact rfl;exact rfl)
 | ((first|((with_reducible apply aj);iterate 4 exact rfl)|((with_reducible apply aa);exact rfl))<;>intro hg<;>(first|(exact absurd hg (by decide))|((try simp only [qz,ge_iff_le,List.cons.injEq,and_true] at hg);first|(exact absurd trivial hg)|(exfalso;omega)|(have hT:True:=hg;clear hT hg)|skip)))
 | (refine zs ?_)
 | fail
 )
  all_goals exact aB rfl rfl
end Go.Proofs.YtdndfncpglfdeaaGreatDoor.Tp
