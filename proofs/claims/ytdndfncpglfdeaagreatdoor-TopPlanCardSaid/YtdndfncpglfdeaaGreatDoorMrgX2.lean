/- PH PI: texts laid together. -/
import Derived.Test.YtdndfncpglfdeaaGreatDoorMrgX0
import Derived.Test.YtdndfncpglfdeaaGreatDoorMrgX1
import Derived.Test.YtdndfncpglfdeaaGreatDoorMrgE5
import Derived.Test.YtdndfncpglfdeaaGreatDoorMrgG2
import Derived.Test.YtdndfncpglfdeaaGreatDoorMrgS
set_option maxRecDepth 100000
set_option maxHeartbeats 64000000

namespace Go.Proofs.YtdndfncpglfdeaaGreatDoor.Tp
set_option linter.unusedVariables false
set_option linter.unusedSimpArgs false
open Go.RowKit Go.Proofs.YtdndfncpglfdeaaGreatDoor.Ev
open Go.Proofs.YtdndfncpglfdeaaGreatDoor.Cu (I LI ce fP)
open Go.Proofs.YtdndfncpglfdeaaGreatDoor.Ge (an Slc Dfc dfC LL LD fz cZ pos aw aX inS)
variable {gl:List (Nat×List CV)}
abbrev cQ (X Y:an):List CV:=[I X.1,I X.2,I Y.1,I Y.2]
def aJ (s:an):Prop:=-600≤s.1∧s.1 < s.2∧s.2≤600
instance:ArrB Tryz.prog 189 [(0,2),(2,2)] [.int .i64 0,.int .i64 0,.int .i64 0,.int .i64 0]:=⟨by kernel_rfl⟩
instance:ArrA Tryz.prog 189 2 2:=⟨by decide +kernel⟩
theorem isRect_con (X Y:an) (hX:aJ X) (hY:aJ Y):bm Tryz.prog gl 125 [.agg (cQ X Y)] (BO true):=by
 obtain ⟨x1,x2,x3⟩:=hX
 obtain ⟨y1,y2,y3⟩:=hY
 refine ao Tryz.func125 rfl (by kernel_rfl) rfl ?_
 simp only [Tryz.ntmps125,Tryz.results125,am,ofC,aZ,List.map]
 repeat' (first
 | ((with_reducible apply (dL (out:=[A X.1,A X.2,A Y.1,A Y.2])));iterate 3 exact rfl)
 | (refine zs ?_)
 | fail
 )
 refine au (G:=Nat) (fun (k:Nat)=>k≤2) (fun (k:Nat)=>2 - k) (fun (k:Nat)=>[(1,.ptr 0 0),(2,.c (BO false)),(9,.agg [A X.1,A X.2,A Y.1,A Y.2]),(10,A k)]) (fun (k:Nat)=>[(0,some (.cells 37 [A X.1,A X.2,A Y.1,A Y.2]))]) 1 0 ?_ (by refine ak rfl ?_ ?_<;>repeat (first|exact ai|exact ac|refine ae rfl rfl ?_|refine ab rfl rfl rfl ?_)) rfl ?_
 ·exact Nat.zero_le _
 rintro k hI
 try dsimp only at hI
 try dsimp only
 have hc:k=0∨k=1∨k=2:=by omega
 rcases hc with rfl|rfl|rfl
 ·skip
  repeat' (first
 | ((with_reducible apply (fN 0));(iterate 3 exact rfl);decide;exact Nat.le_of_ble_eq_true rfl;exact rfl;exact rfl)
 | ((first|((with_reducible apply aj);iterate 4 exact rfl)|((with_reducible apply aa);exact rfl))<;>intro hg<;>(first|(exact absurd hg (by decide))|((try simp only [qz,ge_iff_le,List.cons.injEq,and_true] at hg);first|(exact absurd trivial hg)|(exfalso;omega)|(have hT:True:=hg;clear hT hg)|skip)))
 | (refine zs ?_)
 | fail
 )
  refine ⟨1,?_,?_,by refine ak rfl ?_ ?_<;>repeat (first|exact ai|exact ac|refine ae rfl rfl ?_|refine ab rfl rfl rfl ?_)⟩
  ·decide
  ·decide
 ·skip
  repeat' (first
 | ((with_reducible apply (fN 1));(iterate 3 exact rfl);decide;exact Nat.le_of_ble_eq_true rfl;exact rfl;exact rfl)
 | ((first|((with_reducible apply aj);iterate 4 exact rfl)|((with_reducible apply aa);exact rfl))<;>intro hg<;>(first|(exact absurd hg (by decide))|((try simp only [qz,ge_iff_le,List.cons.injEq,and_true] at hg);first|(exact absurd trivial hg)|(exfalso;omega)|(have hT:True:=hg;clear hT hg)|skip)))
 | (refine zs ?_)
 | fail
 )
  refine ⟨2,?_,?_,by refine ak rfl ?_ ?_<;>repeat (first|exact ai|exact ac|refine ae rfl rfl ?_|refine ab rfl rfl rfl ?_)⟩
  ·decide
  ·decide
 ·skip
  repeat' (first
 | (((with_reducible apply aa);exact rfl)<;>intro hg<;>(first|(exact absurd hg (by decide))|((try simp only [qz,ge_iff_le,List.cons.injEq,and_true] at hg);first|(exact absurd trivial hg)|(exfalso;omega)|(have hT:True:=hg;clear hT hg)|skip)))
 | (refine zs ?_)
 | fail
 )
  all_goals exact aK rfl rfl
def aN {α:Type} (f:Nat→α):Nat→List α
 | 0=>[]
 | j+1=>aN f j++[f j]
theorem aT {α:Type} (f:Nat→α):∀ j,(aN f j).length=j
 | 0=>rfl
 | j+1=>by rw [aN,List.length_append,aT f j];rfl
theorem genN_get {α:Type} (f:Nat→α):∀ (j i:Nat) (h:i < (aN f j).length),(aN f j)[i]=f i
 | 0,i,h=>by simp [aN] at h
 | j+1,i,h=>by
  rw [aT] at h
  by_cases hi:i < j
  ·simp only [aN]
   rw [List.getElem_append_left (by rw [aT];exact hi)]
   exact genN_get f j i _
  ·obtain rfl:i=j:=by omega
   simp only [aN]
   rw [List.getElem_append_right (by rw [aT];exact Nat.le_refl _)]
   simp [aT]
theorem genN_congr {α:Type} {f g:Nat→α}:∀ (j:Nat),(∀ i,i < j→f i=g i)→aN f j=aN g j
 | 0,_=>rfl
 | j+1,h=>by rw [aN,aN,genN_congr j (fun i hi=>h i (by omega)),h j (by omega)]
def lackOf (area w:Int):Int:=(1000 * (area - w)+area - 1).tdiv area
def fD (X Y:an):Int:=(X.2 - X.1) * (Y.2 - Y.1)
noncomputable def zoneS (l:List Slc) (X Y:an) (i:Nat):Zn:=⟨pos l i,pos l i+fz l i,lackOf (fD X Y) (inS (cZ l i) X Y)⟩
noncomputable def zonesS (l:List Slc) (X Y:an):List Zn:=aN (zoneS l X Y) l.length
theorem area_bd {X Y:an} (hX:aJ X) (hY:aJ Y):1≤fD X Y∧fD X Y≤1440000:=by
 obtain ⟨x1,x2,x3⟩:=hX
 obtain ⟨y1,y2,y3⟩:=hY
 unfold fD
 have h1:1 * 1≤(X.2 - X.1) * (Y.2 - Y.1):=Int.mul_le_mul (by omega) (by omega) (by omega) (by omega)
 have h2:(X.2 - X.1) * (Y.2 - Y.1)≤1200 * 1200:=Int.mul_le_mul (by omega) (by omega) (by omega) (by omega)
 omega
theorem in_area (s:Ge.Sec) {X Y:an} (hX:aJ X) (hY:aJ Y):0≤inS s X Y∧inS s X Y≤fD X Y:=by
 refine ⟨Ge.in_nn _ _ _,Int.le_trans (Ge.in_size _ _ _) ?_⟩
 obtain ⟨x1,x2,x3⟩:=hX
 obtain ⟨y1,y2,y3⟩:=hY
 unfold fD Ge.wid
 rw [Int.max_eq_right (by omega),Int.max_eq_right (by omega)]
 exact Int.le_refl _
theorem lack_bd {a w:Int} (ha:1≤a∧a≤1440000) (hw:0≤w∧w≤a):0≤lackOf a w∧lackOf a w≤2000000000:=by
 unfold lackOf
 refine ⟨Int.tdiv_nonneg (by omega) (by omega),?_⟩
 have:=Int.tdiv_le_self (a:=1000 * (a - w)+a - 1) a (by omega)
 omega
theorem lacks_con (l:List Slc) (hc:aX l=0) (X Y:an) (hX:aJ X) (hY:aJ Y):bm Tryz.prog gl 126 [LL l,.agg (cQ X Y)] (LZn (zonesS l X Y)):=by
 have v:=Ge.sol_V hc
 have hn:=v.n
 have ha:=area_bd hX hY
 have hda:fD X Y=(X.2 - X.1) * (Y.2 - Y.1):=rfl
 have x0:=hX
 have y0:=hY
 obtain ⟨x1,x2,x3⟩:=hX
 obtain ⟨y1,y2,y3⟩:=hY
 refine ao Tryz.func126 rfl (by kernel_rfl) rfl ?_
 simp only [Tryz.ntmps126,Tryz.results126,am,ofC,aZ,List.map]
 have hf:aQ ((X.2 - X.1) * (Y.2 - Y.1)):=by rw [← hda];unfold aQ;omega
 repeat' (first
 | (refine zs ?_)
 | fail
 )
 rw [← hda]
 refine bo 6 226 3 rfl rfl ?_
 refine au (G:=Nat) (fun (j:Nat)=>j≤l.length) (fun (j:Nat)=>l.length - j) (fun (j:Nat)=>[(3,.ptr 0 0),(5,A (fD X Y)),(6,.vec 1 j),(7,A (pos l j)),(27,.c (LL l)),(28,A l.length),(29,A j)]) (fun (j:Nat)=>[(1,some (.vec 226 3 ((aN (zoneS l X Y) j).flatMap znL))),(0,some (.cells 37 [A X.1,A X.2,A Y.1,A Y.2]))]) 2 0 ?_ (by refine ak rfl ?_ ?_<;>repeat (first|exact ai|exact ac|refine ae rfl rfl ?_|refine ab rfl rfl rfl ?_)) rfl ?_
 ·exact Nat.zero_le _
 rintro j hI
 try dsimp only at hI
 try dsimp only
 have hsj:=aT (zoneS l X Y) j
 by_cases hjl:j < l.length
 ·have c1:=Ge.within_con (gl:=gl) l[j].sec X Y
  have hin:=in_area l[j].sec x0 y0
  have hz:zoneS l X Y j=⟨pos l j,pos l j+l[j].len,lackOf (fD X Y) (inS l[j].sec X Y)⟩:=by unfold zoneS;rw [Ge.cJ hjl,Ge.eL hjl]
  have hps:pos l (j+1)=pos l j+l[j].len:=by rw [Ge.dJ,Ge.cJ hjl]
  have hb1:=Ge.eZ v (Nat.le_of_lt hjl)
  have hb2:=Ge.eZ v (show j+1≤l.length from hjl)
  have hlk:=lack_bd ha hin
  have hlk2:lackOf (fD X Y) (inS l[j].sec X Y)=(1000 * (fD X Y - inS l[j].sec X Y)+fD X Y - 1).tdiv (fD X Y):=rfl
  rw [hlk2] at hz
  generalize hf0:zoneS l X Y=f0 at *
  generalize fD X Y=ar at *
  generalize inS l[j].sec X Y=wd at *
  repeat' (first
 | ((with_reducible apply (ah (f:=116)));exact rfl;exact rfl;exact c1;exact rfl;exact rfl)
 | (refine aL 11 ?_ ?_;(kernel_rfl);(simp only [List.take_succ_cons,List.take_zero,List.drop_succ_cons,List.drop_zero]))
 | ((with_reducible apply bg);iterate 7 exact rfl)
 | ((with_reducible apply r_quo);exact rfl;exact rfl;omega;exact (by unfold aQ;omega);exact rfl)
 | ((with_reducible apply (aH (enc:=znL) (l2:=[(⟨pos l j,pos l j+l[j].len,(1000 * (ar - wd)+ar - 1).tdiv ar⟩:Zn)])));exact rfl;exact rfl;exact inferInstance;exact hsj;exact rfl;exact (by show _+1 < _;omega);exact (by show (_+1) * _≤_;omega);exact rfl)
 | (((with_reducible apply aa);exact rfl)<;>intro hg<;>(first|(exact absurd hg (by decide))|((try simp only [qz,ge_iff_le,List.cons.injEq,and_true] at hg);first|(exact absurd trivial hg)|(exfalso;omega)|(have hT:True:=hg;clear hT hg)|skip)))
 | (refine zs ?_)
 | fail
 )
  rw [← hz,← hps]
  refine ⟨j+1,?_,?_,by refine ak rfl ?_ ?_<;>repeat (first|exact ai|exact ac|refine ae rfl rfl ?_|refine ab rfl rfl rfl ?_)⟩
  ·show l.length - (j+1) < l.length - j;omega
  ·show j+1≤l.length;omega
 ·obtain rfl:j=l.length:=by omega
  repeat' (first
 | (((with_reducible apply aa);exact rfl)<;>intro hg<;>(first|(exact absurd hg (by decide))|((try simp only [qz,ge_iff_le,List.cons.injEq,and_true] at hg);first|(exact absurd trivial hg)|(exfalso;omega)|(have hT:True:=hg;clear hT hg)|skip)))
 | (refine zs ?_)
 | fail
 )
  all_goals exact cL (.tmp rfl (bx rfl (by rw [av EncL.len];unfold zonesS;rw [hsj])))
structure Vw where
 p:Pr
 X:an
 Y:an
 len:Int
 zones:List Zn
 defs:List Dfc
def vwL (v:Vw):List CV:=[S v.p.name,I v.p.thick,I v.p.width,I v.p.allow,I v.p.wane,LI v.p.lens,LI v.p.prices,I v.X.1,I v.X.2,I v.Y.1,I v.Y.2,I v.len,LZn v.zones,LD v.defs]
abbrev vwB (v:Vw):AB:=.cells 169 ((vwL v).map .c)
theorem vbox_con (v:Vw) (z:an):bm Tryz.prog gl 127 [.agg (vwL v),.agg [I z.1,I z.2]] (boxC v.X v.Y z):=by
 refine ao Tryz.func127 rfl (by kernel_rfl) rfl ?_
 simp only [Tryz.ntmps127,Tryz.results127,am,ofC,aZ,List.map,vwL]
 repeat' (first
 | (refine zs ?_)
 | fail
 )
 all_goals exact cL (.cell_a inferInstance rfl rfl rfl rfl (al ap (al ap (al ap (al ap (al ap (al ap bj)))))))
def fC (X Y z:an) (fine:Int):List Dfc→Int→Int×Bool
 | [],w=>(max w 0,true)
 | d::ds,w=>if fd d.x d.y d.z X Y z=true then (if d.kind=3 then (0,false) else fC X Y z fine ds (w - fine)) else fC X Y z fine ds w
def dk (v:Vw) (z:an) (fine:Int):Int×Bool :=
 if eG z v.len=true then
  if (gS v.p (z.2 - z.1)).2=true∧worstS v.zones z≤v.p.wane then fC v.X v.Y z fine v.defs (gS v.p (z.2 - z.1)).1 else (0,false)
 else (0,false)
theorem fines_next {X Y z:an} {fine:Int} {l:List Dfc} {j:Nat} (h:j < l.length) (w:Int):fC X Y z fine (l.drop j) w=if fd l[j].x l[j].y l[j].z X Y z=true then (if l[j].kind=3 then (0,false) else fC X Y z fine (l.drop (j+1)) (w - fine)) else fC X Y z fine (l.drop (j+1)) w:=by
 rw [List.drop_eq_getElem_cons h];rfl
theorem price_bd {p:Pr} (hp:∀ q∈p.prices,0≤q∧q≤1000000) (n:Int):0≤(gS p n).1∧(gS p n).1≤1000000:=by
 unfold gS
 have:∀ (ls ps:List Int),(∀ q∈ps,0≤q∧q≤1000000)→0≤(iS ls ps n).1∧(iS ls ps n).1≤1000000:=by
  intro ls
  induction ls with
  | nil=>intro ps _;exact ⟨Int.le_refl 0,(by decide:(0:Int)≤1000000)⟩
  | cons x xs ih =>
   intro ps h
   unfold iS
   split
   ·split
    ·exact ⟨by decide,by decide⟩
    ·exact h _ (List.mem_cons_self ..)
   ·exact ih ps.tail (fun q hq=>h q (List.mem_of_mem_tail hq))
 exact this _ _ hp
theorem vworth_con (v:Vw) (z:an) (fine:Int) (hl:v.p.lens.length≤100000) (hz:v.zones.length≤100000) (hd:v.defs.length≤100) (hf:0≤fine∧fine≤1000000) (hp:∀ q∈v.p.prices,0≤q∧q≤1000000) (hzz:-100000≤z.1∧z.1≤100000∧-100000≤z.2∧z.2≤100000) :
  bm Tryz.prog gl 87 [.agg (vwL v),.agg [I z.1,I z.2],I fine] (.tup [I (dk v z fine).1,BO (dk v z fine).2]):=by
 have c1:=isWithin_con (gl:=gl) z v.len
 have c2:=price_con (gl:=gl) v.p (z.2 - z.1) hl
 have c3:=worst_con (gl:=gl) v.zones z hz
 have c4:=vbox_con (gl:=gl) v z
 have hpb:=price_bd hp (z.2 - z.1)
 unfold dk
 cases hw:eG z v.len with
 | false =>
  rw [hw] at c1
  rw [if_neg (by decide)]
  refine ao Tryz.func87 rfl (by kernel_rfl) rfl ?_
  simp only [Tryz.ntmps87,Tryz.results87,am,ofC,aZ,List.map,vwL]
  repeat' (first
 | ((with_reducible apply (ah (f:=129)));exact rfl;exact rfl;exact c1;exact rfl;exact rfl)
 | (((with_reducible apply aa);exact rfl)<;>intro hg<;>(first|(exact absurd hg (by decide))|((try simp only [qz,ge_iff_le,List.cons.injEq,and_true] at hg);first|(exact absurd trivial hg)|(exfalso;omega)|(have hT:True:=hg;clear hT hg)|skip)))
 | (refine zs ?_)
 | fail
 )
  all_goals exact bJ (.cons (.tmp rfl ap) (.cons (.tmp rfl ap) .nil))
 | true =>
 rw [hw] at c1
 rw [if_pos rfl]
 cases hb:(gS v.p (z.2 - z.1)).2 with
 | false =>
  rw [hb] at c2
  rw [if_neg (fun h=>by cases h.1)]
  refine ao Tryz.func87 rfl (by kernel_rfl) rfl ?_
  simp only [Tryz.ntmps87,Tryz.results87,am,ofC,aZ,List.map,vwL]
  repeat' (first
 | ((with_reducible apply (ah (f:=129)));exact rfl;exact rfl;exact c1;exact rfl;exact rfl)
 | ((with_reducible apply (ah (f:=130)));exact rfl;exact rfl;exact c2;exact rfl;exact rfl)
 | (((with_reducible apply aa);exact rfl)<;>intro hg<;>(first|(exact absurd hg (by decide))|((try simp only [qz,ge_iff_le,List.cons.injEq,and_true] at hg);first|(exact absurd trivial hg)|(exfalso;omega)|(have hT:True:=hg;clear hT hg)|skip)))
 | (((with_reducible apply bL);iterate 3 exact rfl)<;>intro hg<;>(first|(exact absurd hg (by decide))|((try rw [hg]);(try simp only [qz,ge_iff_le,List.cons.injEq,and_true] at hg);first|(exact absurd trivial hg)|(exfalso;omega)|(have hT:True:=hg;clear hT hg)|skip)))
 | (refine zs ?_)
 | fail
 )
  all_goals exact bJ (.cons (.tmp rfl ap) (.cons (.tmp rfl ap) .nil))
 | true =>
 rw [hb] at c2
 by_cases hwn:worstS v.zones z≤v.p.wane
 rotate_left
 ·rw [if_neg (fun h=>hwn h.2)]
  have hgt:decide (worstS v.zones z > v.p.wane)=true:=decide_eq_true (by omega)
  generalize worstS v.zones z=ws at *
  refine ao Tryz.func87 rfl (by kernel_rfl) rfl ?_
  simp only [Tryz.ntmps87,Tryz.results87,am,ofC,aZ,List.map,vwL]
  repeat' (first
 | ((with_reducible apply (ah (f:=129)));exact rfl;exact rfl;exact c1;exact rfl;exact rfl)
 | ((with_reducible apply (ah (f:=130)));exact rfl;exact rfl;exact c2;exact rfl;exact rfl)
 | ((with_reducible apply (ah (f:=131)));exact rfl;exact rfl;exact c3;exact rfl;exact rfl)
 | (((with_reducible apply aa);exact rfl)<;>intro hg<;>(first|(exact absurd hg (by decide))|((try simp only [qz,ge_iff_le,List.cons.injEq,and_true] at hg);first|(exact absurd trivial hg)|(exfalso;omega)|(have hT:True:=hg;clear hT hg)|skip)))
 | (((with_reducible apply bL);iterate 3 exact rfl)<;>intro hg<;>(first|(exact absurd hg (by decide))|((try rw [hg]);(try simp only [qz,ge_iff_le,List.cons.injEq,and_true] at hg);first|(exact absurd trivial hg)|(exfalso;omega)|(have hT:True:=hg;clear hT hg)|skip)))
 | (refine zs ?_)
 | fail
 )
  all_goals exact bJ (.cons (.tmp rfl ap) (.cons (.tmp rfl ap) .nil))
 rw [if_pos ⟨rfl,hwn⟩]
 have hgt:decide (worstS v.zones z > v.p.wane)=false:=decide_eq_false (by omega)
 generalize worstS v.zones z=ws at *
 generalize (gS v.p (z.2 - z.1)).1=pr at *
 refine ao Tryz.func87 rfl (by kernel_rfl) rfl ?_
 simp only [Tryz.ntmps87,Tryz.results87,am,ofC,aZ,List.map,vwL]
 repeat' (first
 | ((with_reducible apply (ah (f:=129)));exact rfl;exact rfl;exact c1;exact rfl;exact rfl)
 | ((with_reducible apply (ah (f:=130)));exact rfl;exact rfl;exact c2;exact rfl;exact rfl)
 | ((with_reducible apply (ah (f:=131)));exact rfl;exact rfl;exact c3;exact rfl;exact rfl)
 | ((with_reducible apply (ah (f:=127)));exact rfl;exact rfl;exact c4;exact rfl;exact rfl)
 | (((with_reducible apply aa);exact rfl)<;>intro hg<;>(first|(exact absurd hg (by decide))|((try simp only [qz,ge_iff_le,List.cons.injEq,and_true] at hg);first|(exact absurd trivial hg)|(exfalso;omega)|(have hT:True:=hg;clear hT hg)|skip)))
 | (((with_reducible apply bL);iterate 3 exact rfl)<;>intro hg<;>(first|(exact absurd hg (by decide))|((try rw [hg]);(try simp only [qz,ge_iff_le,List.cons.injEq,and_true] at hg);first|(exact absurd trivial hg)|(exfalso;omega)|(have hT:True:=hg;clear hT hg)|skip)))
 | (refine zs ?_)
 | fail
 )
 refine au (G:=Nat×Int) (fun ((j,w):Nat×Int)=>j≤v.defs.length∧fC v.X v.Y z fine v.defs pr=fC v.X v.Y z fine (v.defs.drop j) w∧-1000000 * (j:Int)≤w∧w≤1000000) (fun ((j,w):Nat×Int)=>v.defs.length - j) (fun ((j,w):Nat×Int)=>[(2,A fine),(3,.ptr 0 0),(8,A w),(10,.ptr 2 0),(45,.c (LD v.defs)),(46,A v.defs.length),(47,A j)]) (fun ((j,w):Nat×Int)=>[(2,some (.cells 115 [A v.X.1,A v.X.2,A v.Y.1,A v.Y.2,A z.1,A z.2])),(0,some (vwB v))]) 3 (0,pr) ?_ (by refine ak rfl ?_ ?_<;>repeat (first|exact ai|exact ac|refine ae rfl rfl ?_|refine ab rfl rfl rfl ?_)) rfl ?_
 ·exact ⟨Nat.zero_le _,rfl,by show (-1000000:Int) * 0≤pr;omega,hpb.2⟩
 rintro ⟨j,w⟩ hI
 try dsimp only at hI
 try dsimp only
 obtain ⟨hj,he,hw1,hw2⟩:=hI
 by_cases hjl:j < v.defs.length
 ·have c5:=touches_con (gl:=gl) v.defs[j] v.X v.Y z
  have e:=fines_next (X:=v.X) (Y:=v.Y) (z:=z) (fine:=fine) hjl w
  cases ht:fd v.defs[j].x v.defs[j].y v.defs[j].z v.X v.Y z with
  | false =>
   rw [ht] at c5
   rw [ht,if_neg (by decide)] at e
   repeat' (first
 | ((with_reducible apply (ah (f:=128)));exact rfl;exact rfl;exact c5;exact rfl;exact rfl)
 | (((with_reducible apply aa);exact rfl)<;>intro hg<;>(first|(exact absurd hg (by decide))|((try simp only [qz,ge_iff_le,List.cons.injEq,and_true] at hg);first|(exact absurd trivial hg)|(exfalso;omega)|(have hT:True:=hg;clear hT hg)|skip)))
 | (refine zs ?_)
 | fail
 )
   refine ⟨(j+1,w),?_,?_,by refine ak rfl ?_ ?_<;>repeat (first|exact ai|exact ac|refine ae rfl rfl ?_|refine ab rfl rfl rfl ?_)⟩
   ·show v.defs.length - (j+1) < v.defs.length - j;omega
   ·exact ⟨by show j+1≤_;omega,by rw [he];exact e,by show -1000000 * ((j+1:Nat):Int)≤w;omega,hw2⟩
  | true =>
   rw [ht] at c5
   rw [ht,if_pos rfl] at e
   by_cases hk:v.defs[j].kind=3
   ·rw [if_pos hk] at e
    rw [he,e]
    repeat' (first
 | ((with_reducible apply (ah (f:=128)));exact rfl;exact rfl;exact c5;exact rfl;exact rfl)
 | (((with_reducible apply aa);exact rfl)<;>intro hg<;>(first|(exact absurd hg (by decide))|((try simp only [qz,ge_iff_le,List.cons.injEq,and_true] at hg);first|(exact absurd trivial hg)|(exfalso;omega)|(have hT:True:=hg;clear hT hg)|skip)))
 | (refine zs ?_)
 | fail
 )
    all_goals exact bJ (.cons (.tmp rfl ap) (.cons (.tmp rfl ap) .nil))
   ·rw [if_neg hk] at e
    repeat' (first
 | ((with_reducible apply (ah (f:=128)));exact rfl;exact rfl;exact c5;exact rfl;exact rfl)
 | (((with_reducible apply aa);exact rfl)<;>intro hg<;>(first|(exact absurd hg (by decide))|((try simp only [qz,ge_iff_le,List.cons.injEq,and_true] at hg);first|(exact absurd trivial hg)|(exfalso;omega)|(have hT:True:=hg;clear hT hg)|skip)))
 | (refine zs ?_)
 | fail
 )
    refine ⟨(j+1,w - fine),?_,?_,by refine ak rfl ?_ ?_<;>repeat (first|exact ai|exact ac|refine ae rfl rfl ?_|refine ab rfl rfl rfl ?_)⟩
    ·show v.defs.length - (j+1) < v.defs.length - j;omega
    ·exact ⟨by show j+1≤_;omega,by rw [he];exact e,by show -1000000 * ((j+1:Nat):Int)≤w - fine;omega,by show w - fine≤_;omega⟩
 ·rw [he,List.drop_eq_nil_of_le (by omega)]
  repeat' (first
 | (((with_reducible apply aa);exact rfl)<;>intro hg<;>(first|(exact absurd hg (by decide))|((try simp only [qz,ge_iff_le,List.cons.injEq,and_true] at hg);first|(exact absurd trivial hg)|(exfalso;omega)|(have hT:True:=hg;clear hT hg)|skip)))
 | (refine zs ?_)
 | fail
 )
  all_goals exact bJ (.cons (.tmp rfl ap) (.cons (.tmp rfl ap) .nil))
end Go.Proofs.YtdndfncpglfdeaaGreatDoor.Tp

namespace Go.Proofs.YtdndfncpglfdeaaGreatDoor.Tp
set_option linter.unusedVariables false
set_option linter.unusedSimpArgs false
open Go.RowKit Go.Proofs.YtdndfncpglfdeaaGreatDoor.Ev
open Go.Proofs.YtdndfncpglfdeaaGreatDoor.Cu (I LI ce fP)
open Go.Proofs.YtdndfncpglfdeaaGreatDoor.Ge (an Slc Dfc dfC LL LD fz cZ pos aw aX inS cI)
variable {gl:List (Nat×List CV)}
structure Wq (l:List Slc) (d:List Dfc) (p:Pr) (X Y:an):Prop where
 sol:aX l=0
 def':cI d=0
 pro:prE [p]=0
 x:aJ X
 y:aJ Y
 size:(X.2 - X.1=(aW p).1∧Y.2 - Y.1=(aW p).2)∨(X.2 - X.1=(aW p).2∧Y.2 - Y.1=(aW p).1)
theorem prE_one {p:Pr} (h:prE [p]=0):dY p=0:=by
 unfold prE at h
 rw [if_neg (show ¬ [p].length > 16 from (by decide:¬ 1 > 16))] at h
 refine Classical.byContradiction fun hc=>?_
 have h0:¬ Ge.eT p.name=false:=fun hn=>by
  have:=prG_name (l:=[p]) (j:=0) Nat.one_pos hn
  rw [show ([p]:List Pr).take 0=[] from rfl,show ([p]:List Pr).drop 0=[p] from rfl,h] at this
  cases this
 have:=iU (l:=[p]) (j:=0) Nat.one_pos h0 (by simp) hc
 rw [show ([p]:List Pr).take 0=[] from rfl,show ([p]:List Pr).drop 0=[p] from rfl,h] at this
 exact hc this.symm
structure PrV (p:Pr):Prop where
 aW:gz p
 gs:5≤(Tp.aW p).1∧(Tp.aW p).1≤(Tp.aW p).2∧(Tp.aW p).2≤600
 wane:0≤p.wane∧p.wane≤1000
 lens:1≤p.lens.length∧p.lens.length≤8∧∀ n∈p.lens,100≤n∧n≤20000
 prices:p.prices.length=p.lens.length∧∀ q∈p.prices,0≤q∧q≤1000000
theorem lensE_ok:∀ (l:List Int) (o:Option Int),dF o l=0→∀ n∈l,100≤n∧n≤20000
 | [],_,_,n,h=>by cases h
 | x::xs,o,h,n,hn=>by
  have hx:¬ (x < 100∨x > 20000)∧dF (some x) xs=0:=by
   cases o with
   | none =>
    unfold dF at h
    split at h
    ·cases h
    ·exact ⟨‹_›,h⟩
   | some q =>
    unfold dF at h
    split at h
    ·cases h
    ·split at h
     ·cases h
     ·exact ⟨‹_›,h⟩
  rcases List.mem_cons.1 hn with rfl|hn
  ·omega
  ·exact lensE_ok xs _ hx.2 n hn
theorem pricesE_ok:∀ (l:List Int),dR l=0→∀ n∈l,0≤n∧n≤1000000
 | [],_,n,h=>by cases h
 | x::xs,h,n,hn=>by
  unfold dR at h
  split at h
  ·cases h
  ·rcases List.mem_cons.1 hn with rfl|hn
   ·omega
   ·exact pricesE_ok xs h n hn
theorem numsE_ok {p:Pr} (h:dY p=0):PrV p:=by
 unfold dY at h
 split at h
 ·cases h
 split at h
 ·cases h
 split at h
 ·cases h
 rename_i h1 h2 h3
 have hg:gz p:=⟨by omega,by omega,by omega⟩
 unfold lenE at h
 split at h
 ·cases h
 split at h
 ·cases h
 split at h
 ·cases h
 rename_i h4 h5 h6
 by_cases h7:dF none p.lens=0
 rotate_left
 ·rw [if_neg h7] at h;exact absurd h h7
 rw [if_pos h7] at h
 have b1:=grow_bd hg.1 hg.2.2
 have hle:gU p.thick p.allow≤gU p.width p.allow:=by
  have hm:p.thick * (1000+p.allow)≤p.width * (1000+p.allow):=Int.mul_le_mul_of_nonneg_right (by omega) (by omega)
  have m1:=mul_bd hg.1 hg.2.2
  unfold gU
  rw [Int.tdiv_eq_ediv_of_nonneg (by omega),Int.tdiv_eq_ediv_of_nonneg (by omega)]
  omega
 have hge:aW p=(gU p.thick p.allow,gU p.width p.allow):=by unfold aW;rw [if_pos hg]
 rw [hge] at h3
 refine ⟨hg,by rw [hge];dsimp only at h3 ⊢;omega,by omega,⟨by omega,by omega,lensE_ok _ _ h7⟩,⟨by omega,pricesE_ok _ h⟩⟩
noncomputable def vwOf (l:List Slc) (d:List Dfc) (p:Pr) (X Y:an):Vw:=⟨p,X,Y,aw l,zonesS l X Y,d.filter fun x=>fd x.x x.y x.z X Y (0,aw l)⟩
def vw0L (v:Vw):List CV:=[S v.p.name,I v.p.thick,I v.p.width,I v.p.allow,I v.p.wane,LI v.p.lens,LI v.p.prices,I v.X.1,I v.X.2,I v.Y.1,I v.Y.2,I v.len,LZn v.zones,.v (.slice none 0 0)]
theorem vbox0_con (v:Vw) (z:an):bm Tryz.prog gl 127 [.agg (vw0L v),.agg [I z.1,I z.2]] (boxC v.X v.Y z):=by
 refine ao Tryz.func127 rfl (by kernel_rfl) rfl ?_
 simp only [Tryz.ntmps127,Tryz.results127,am,ofC,aZ,List.map,vw0L]
 repeat' (first
 | (refine zs ?_)
 | fail
 )
 all_goals exact cL (.cell_a inferInstance rfl rfl rfl rfl (al ap (al ap (al ap (al ap (al ap (al ap bj)))))))
theorem filter_snoc {α:Type} (f:α→Bool) (l:List α) (j:Nat) (h:j < l.length):(l.take (j+1)).filter f=(l.take j).filter f++if f l[j]=true then [l[j]] else []:=by
 rw [List.take_succ_eq_append_getElem h,List.filter_append]
 congr 1
 cases hf:f l[j]<;>simp [hf]
theorem len_le {l:List Slc} (hc:aX l=0):0≤aw l∧aw l≤20000:=by
 unfold aw
 rw [Ge.gC hc]
 exact Ge.eZ (Ge.sol_V hc) (Nat.le_refl _)
theorem eq_two (w:World) (a0 a1 b0 b1:Int):(Op.equalIn 10000 205 (.agg #[.int .i64 a0,.int .i64 a1]) (.agg #[.int .i64 b0,.int .i64 b1])).run Tryz.prog w=.ok (decide (a0=b0) && decide (a1=b1)) w:=by
 rw [show 10000=9998+1+1 from rfl]
 unfold Op.equalIn
 have hint:∀ x y:Int,(Op.equalIn (9998+1) 3 (.int .i64 x) (.int .i64 y)).run Tryz.prog w=.ok (x == y) w:=fun x y=>by
  unfold Op.equalIn;simp [go_sem]
 obtain ⟨dd,ii,g1,g2,g3,g4⟩:=TyC.out (P:=Tryz.prog) (t:=3) (inferInstance:TyC Tryz.prog 3 false 1)
 have g3':Tryz.prog.info? 3=some ii:=g3
 simp [go_sem,Std.Legacy.Range.forIn_eq_forIn_range',List.range',part,isAgg,sizeOf,typeInfo,g3',g4]
 split
 ·split<;>simp_all
 ·simp_all
instance:EqInts Tryz.prog 205 2:=⟨fun w x y p q ha hb=>by
 match p,q,ha,hb with
 | [a0,a1],[b0,b1],_,_ =>
  constructor<;>simp [go_sem,Sem.run_bind,eq_two]⟩
theorem r_neqsB {P:Program} {rest:List Oper} {d:Nat} {ty:TypeId} {pos:String} {af:Array Edge} {n:Nat} {env:List (Nat×AV)} {heap:List (Nat×Option AB)} {nx:Nat} {gl:List (Nat×List CV)} {X:List Oper→St→Prop} [W:Walk P X] {x y:Operand} {t t2 n':Nat} {xs ys:List AV} {us vs:List Int} [I:EqInts P t n'] (b:Bool) (hx:St.ev ⟨n,env,heap,nx,gl⟩ x=some (.agg xs)) (hy:St.ev ⟨n,env,heap,nx,gl⟩ y=some (.agg ys)) (ha:ints xs=some us) (hb:ints ys=some vs) (hn:us.length=n') (hn2:vs.length=n') (hbb:(!decide (us=vs))=b) (hd:Nat.blt d n=true) (h:X rest ⟨n,(d,(.c (.v (.bool b))))::env,heap,nx,gl⟩):X (⟨some d,.binOp .neq t x y t2,ty,pos,af,none⟩::rest) ⟨n,env,heap,nx,gl⟩:=by
 subst hbb;exact r_neqs hx hy ha hb hn hn2 hd h
instance:ArrB Tryz.prog 205 [(0,1),(1,1)] [.int .i64 0,.int .i64 0]:=⟨by kernel_rfl⟩
theorem look_con {l:List Slc} {d:List Dfc} {p:Pr} {X Y:an} (q:Wq l d p X Y):bm Tryz.prog gl 86 [LL l,LD d,.agg (prL p),.agg (cQ X Y)] (.tup [.agg (vwL (vwOf l d p X Y)),BO true]):=by
 have v:=Ge.sol_V q.sol
 have hln:=v.n
 have c1:=Ge.eX (gl:=gl) l (Nat.le_trans hln (by decide))
 have hdl:d.length≤64:=Classical.byContradiction fun hc=>by have:=Ge.def_64 (l:=d) (by omega);rw [q.def'] at this;cases this
 have c2:=Ge.iP (gl:=gl) d (Nat.le_trans hdl (by decide))
 have c3:=fc (gl:=gl) [p]
 have c4:=isRect_con (gl:=gl) X Y q.x q.y
 have c5:=hO (gl:=gl) p
 have c6:=Ge.fu (gl:=gl) l (Nat.le_trans hln (by decide))
 have c7:=lacks_con (gl:=gl) l q.sol X Y q.x q.y
 rw [q.sol] at c1
 rw [q.def'] at c2
 rw [q.pro] at c3
 have hsz:=q.size
 obtain ⟨x1,x2,x3⟩:=q.x
 obtain ⟨y1,y2,y3⟩:=q.y
 have hll:=len_le q.sol
 unfold vwOf
 generalize aw l=L at *
 generalize zonesS l X Y=Zs at *
 obtain ⟨⟨g1,g2⟩,hg⟩:∃ g:Int×Int,aW p=g:=⟨_,rfl⟩
 rw [hg] at hsz c5
 dsimp only at hsz c5
 have c8:=vbox0_con (gl:=gl) ⟨p,X,Y,L,Zs,[]⟩ (0,L)
 have key:∀ b1 b2:Bool,(!decide ([X.2 - X.1,Y.2 - Y.1]=[g1,g2]))=b1→(!decide ([X.2 - X.1,Y.2 - Y.1]=[g2,g1]))=b2→(b1=false∨b2=false)→bm Tryz.prog gl 86 [LL l,LD d,.agg (prL p),.agg (cQ X Y)] (.tup [.agg (vwL ⟨p,X,Y,L,Zs,d.filter fun x=>fd x.x x.y x.z X Y (0,L)⟩),BO true]):=by
  intro b1 b2 e1 e2 hb
  refine ao Tryz.func86 rfl (by kernel_rfl) rfl ?_
  simp only [Tryz.ntmps86,Tryz.results86,am,ofC,aZ,List.map,prL]
  rcases (show b1=false∨(b1=true∧b2=false) by cases b1<;>simp_all) with rfl|⟨rfl,rfl⟩
  all_goals
   repeat' (first
 | ((with_reducible apply bg);iterate 7 exact rfl)
 | (refine bT 8 ?_ rfl br rfl ?_;(kernel_rfl);(simp only [List.take_succ_cons,List.take_zero,List.drop_succ_cons,List.drop_zero]))
 | ((with_reducible apply cy);exact rfl)
 | ((with_reducible apply (ah (f:=48)));exact rfl;exact rfl;exact c1;exact rfl;exact rfl)
 | ((with_reducible apply (ah (f:=49)));exact rfl;exact rfl;exact c2;exact rfl;exact rfl)
 | ((with_reducible apply (ah (f:=50)));exact rfl;exact rfl;exact c3;exact rfl;exact rfl)
 | ((with_reducible apply (ah (f:=125)));exact rfl;exact rfl;exact c4;exact rfl;exact rfl)
 | ((with_reducible apply (ah (f:=99)));exact rfl;exact rfl;exact c5;exact rfl;exact rfl)
 | ((with_reducible apply (ah (f:=65)));exact rfl;exact rfl;exact c6;exact rfl;exact rfl)
 | ((with_reducible apply (ah (f:=126)));exact rfl;exact rfl;exact c7;exact rfl;exact rfl)
 | ((with_reducible apply (ah (f:=127)));exact rfl;exact rfl;exact c8;exact rfl;exact rfl)
 | ((with_reducible apply (dL (out:=[A (X.2 - X.1),A (Y.2 - Y.1)])));iterate 3 exact rfl)
 | ((with_reducible apply (dL (out:=[A g1,A g2])));iterate 3 exact rfl)
 | ((with_reducible apply (dL (out:=[A g2,A g1])));iterate 3 exact rfl)
 | ((with_reducible apply (r_neqsB false));(iterate 6 exact rfl);(first|exact e1|exact e2);exact rfl)
 | ((with_reducible apply (r_neqsB true));(iterate 6 exact rfl);(first|exact e1|exact e2);exact rfl)
 | ((first|((with_reducible apply aj);iterate 4 exact rfl)|((with_reducible apply aa);exact rfl))<;>intro hg<;>(first|(exact absurd hg (by decide))|((try simp only [qz,ge_iff_le,List.cons.injEq,and_true] at hg);first|(exact absurd trivial hg)|(exfalso;omega)|(have hT:True:=hg;clear hT hg)|skip)))
 | (refine zs ?_)
 | fail
 )
   refine bO 4 13 178 7 rfl rfl rfl rfl ?_
   refine au (G:=Nat×List Dfc×Nat) (fun ((j,s,n):Nat×List Dfc×Nat)=>j≤d.length∧s=(d.take j).filter (fun x=>fd x.x x.y x.z X Y (0,L))∧s.length=n) (fun ((j,s,n):Nat×List Dfc×Nat)=>d.length - j) (fun ((j,s,n):Nat×List Dfc×Nat)=>[(8,.ptr 2 0),(13,.ptr 4 0),(14,.ptr 5 0),(83,.c (LD d)),(84,A d.length),(85,A j)]) (fun ((j,s,n):Nat×List Dfc×Nat)=>[(4,some (.cells 169 [.c (S p.name),A p.thick,A p.width,A p.allow,A p.wane,.c (LI p.lens),.c (LI p.prices),A X.1,A X.2,A Y.1,A Y.2,A L,.c (LZn Zs),.vec 6 n])),(6,some (.vec 178 7 (s.flatMap dfC))),(5,some (.cells 115 [A X.1,A X.2,A Y.1,A Y.2,A 0,A L])),(2,some (.cells 169 [.c (.v (.string ByteArray.empty)),A 0,A 0,A 0,A 0,.c (.v (.slice none 0 0)),.c (.v (.slice none 0 0)),A 0,A 0,A 0,A 0,A 0,.c (.v (.slice none 0 0)),.c (.v (.slice none 0 0))]))]) 7 (0,[],0) ?_ (by refine ak rfl ?_ ?_<;>repeat (first|exact ai|exact ac|refine ae rfl rfl ?_|refine ab rfl rfl rfl ?_)) rfl ?_
   ·exact ⟨Nat.zero_le _,rfl,rfl⟩
   rintro ⟨j,s,n⟩ hI
   try dsimp only at hI
   try dsimp only
   obtain ⟨hj,hs,hn⟩:=hI
   by_cases hjl:j < d.length
   ·have c9:=touches_con (gl:=gl) d[j] X Y (0,L)
    have e:=filter_snoc (fun x:Dfc=>fd x.x x.y x.z X Y (0,L)) d j hjl
    have hsl:s.length≤d.length:=by rw [hs];exact Nat.le_trans (List.length_filter_le _ _) (by rw [List.length_take];omega)
    cases ht:fd d[j].x d[j].y d[j].z X Y (0,L) with
    | false =>
     rw [ht] at c9
     repeat' (first
 | ((with_reducible apply (ah (f:=128)));exact rfl;exact rfl;exact c9;exact rfl;exact rfl)
 | (((with_reducible apply aa);exact rfl)<;>intro hg<;>(first|(exact absurd hg (by decide))|((try simp only [qz,ge_iff_le,List.cons.injEq,and_true] at hg);first|(exact absurd trivial hg)|(exfalso;omega)|(have hT:True:=hg;clear hT hg)|skip)))
 | (refine zs ?_)
 | fail
 )
     refine ⟨(j+1,s,n),?_,?_,by refine ak rfl ?_ ?_<;>repeat (first|exact ai|exact ac|refine ae rfl rfl ?_|refine ab rfl rfl rfl ?_)⟩
     ·show d.length - (j+1) < d.length - j;omega
     ·exact ⟨by show j+1≤_;omega,by show s=_;rw [e,← hs];simp [ht],hn⟩
    | true =>
     rw [ht] at c9
     repeat' (first
 | ((with_reducible apply (ah (f:=128)));exact rfl;exact rfl;exact c9;exact rfl;exact rfl)
 | ((with_reducible apply (dq (enc:=dfC) (x0:=d[j])));exact rfl;exact rfl;exact inferInstance;exact hn;(iterate 3 exact rfl);exact (by omega);exact (by omega);exact rfl)
 | (((with_reducible apply aa);exact rfl)<;>intro hg<;>(first|(exact absurd hg (by decide))|((try simp only [qz,ge_iff_le,List.cons.injEq,and_true] at hg);first|(exact absurd trivial hg)|(exfalso;omega)|(have hT:True:=hg;clear hT hg)|skip)))
 | (refine zs ?_)
 | fail
 )
     refine ⟨(j+1,s++[d[j]],n+1),?_,?_,by refine ak rfl ?_ ?_<;>repeat (first|exact ai|exact ac|refine ae rfl rfl ?_|refine ab rfl rfl rfl ?_)⟩
     ·show d.length - (j+1) < d.length - j;omega
     ·exact ⟨by show j+1≤_;omega,by show s++_=_;rw [e,← hs];simp [ht],by show (s++_).length=_;simp [hn]⟩
   ·obtain rfl:j=d.length:=by omega
    rw [List.take_length] at hs
    rw [← hs]
    repeat' (first
 | (((with_reducible apply aa);exact rfl)<;>intro hg<;>(first|(exact absurd hg (by decide))|((try simp only [qz,ge_iff_le,List.cons.injEq,and_true] at hg);first|(exact absurd trivial hg)|(exfalso;omega)|(have hT:True:=hg;clear hT hg)|skip)))
 | (refine zs ?_)
 | fail
 )
    all_goals exact bJ (.cons (.cell_a inferInstance rfl rfl rfl rfl (al ap (al ap (al ap (al ap (al ap (al ap (al ap (al ap (al ap (al ap (al ap (al ap (al ap (al (bx rfl (by rw [av EncL.len,hn])) bj))))))))))))))) (.cons (.tmp rfl ap) .nil))
 refine key _ _ rfl rfl ?_
 simp only [List.cons.injEq,and_true,Bool.not_eq_false',decide_eq_true_eq]
 omega
abbrev WB:=an×Int×Bool
def stepB (v:Vw) (fine at':Int) (b:WB) (n:Int):WB :=
 if (dk v (at',at'+n) fine).2=true∧(b.2.2=false∨b.2.1 < (dk v (at',at'+n) fine).1) then ((at',at'+n),(dk v (at',at'+n) fine).1,true) else b
def rowB (v:Vw) (fine at':Int) (ls:List Int) (b:WB):WB:=ls.foldl (stepB v fine at') b
def outB (v:Vw) (fine step:Int):Nat→Int→WB→WB
 | 0,_,b=>b
 | k+1,at',b=>if at' < v.len then outB v fine step k (at'+step) (rowB v fine at' v.p.lens b) else b
def wbV (v:Vw) (fine step:Int):WB:=outB v fine step (v.len.toNat+1) 0 ((0,0),0,false)
noncomputable def wbS (l:List Slc) (d:List Dfc) (p:Pr) (X Y:an) (step fine:Int):WB:=wbV (vwOf l d p X Y) fine step
theorem rowB_next (v:Vw) (fine at':Int) {ls:List Int} {j:Nat} (h:j < ls.length) (b:WB):rowB v fine at' (ls.drop j) b=rowB v fine at' (ls.drop (j+1)) (stepB v fine at' b ls[j]):=by
 unfold rowB
 rw [List.drop_eq_getElem_cons h];rfl
def OkB (v:Vw) (b:WB):Prop:=b.2.2=true→eG b.1 v.len=true∧0≤b.2.1∧b.2.1≤1000000
theorem fines_bd {X Y z:an} {fine:Int} (hf:0≤fine):∀ (ds:List Dfc) (w:Int),w≤1000000→0≤(fC X Y z fine ds w).1∧(fC X Y z fine ds w).1≤1000000
 | [],w,h=>by unfold fC;dsimp only;omega
 | d::ds,w,h=>by
  unfold fC
  split
  ·split
   ·exact ⟨Int.le_refl 0,(by decide:(0:Int)≤1000000)⟩
   ·exact fines_bd hf ds _ (by omega)
  ·exact fines_bd hf ds _ h
theorem vworth_ok {v:Vw} {z:an} {fine:Int} (hf:0≤fine) (hp:∀ q∈v.p.prices,0≤q∧q≤1000000) (h:(dk v z fine).2=true):eG z v.len=true∧0≤(dk v z fine).1∧(dk v z fine).1≤1000000:=by
 unfold dk at h ⊢
 split at h
 ·rename_i hw
  rw [if_pos hw]
  refine ⟨hw,?_⟩
  split at h
  ·rename_i h2
   rw [if_pos h2]
   exact fines_bd hf _ _ (price_bd hp _).2
  ·cases h
 ·cases h
theorem stepB_ok {v:Vw} {fine at':Int} (hf:0≤fine) (hp:∀ q∈v.p.prices,0≤q∧q≤1000000) {b:WB} (h:OkB v b) (n:Int):OkB v (stepB v fine at' b n):=by
 unfold stepB
 split
 ·rename_i h2
  exact fun _=>vworth_ok hf hp h2.1
 ·exact h
theorem rowB_ok {v:Vw} {fine at':Int} (hf:0≤fine) (hp:∀ q∈v.p.prices,0≤q∧q≤1000000):∀ (ls:List Int) {b:WB},OkB v b→OkB v (rowB v fine at' ls b)
 | [],_,h=>h
 | x::ls,_,h=>rowB_ok hf hp ls (stepB_ok hf hp h x)
theorem outB_ok {v:Vw} {fine step:Int} (hf:0≤fine) (hp:∀ q∈v.p.prices,0≤q∧q≤1000000):∀ (k:Nat) (at':Int) {b:WB},OkB v b→OkB v (outB v fine step k at' b)
 | 0,_,_,h=>h
 | k+1,at',_,h=>by
  unfold outB
  split
  ·exact outB_ok hf hp k _ (rowB_ok hf hp _ h)
  ·exact h
theorem wb_ok {l:List Slc} {d:List Dfc} {p:Pr} {X Y:an} {step fine:Int} (q:Wq l d p X Y) (hf:0≤fine) (h:(wbS l d p X Y step fine).2.2=true):eG (wbS l d p X Y step fine).1 (aw l)=true∧0≤(wbS l d p X Y step fine).2.1∧(wbS l d p X Y step fine).2.1≤1000000 :=
 outB_ok (v:=vwOf l d p X Y) hf (numsE_ok (prE_one q.pro)).prices.2 _ 0 (b:=((0,0),0,false)) (fun h=>by cases h) h
theorem wbest_con {l:List Slc} {d:List Dfc} {p:Pr} {X Y:an} (q:Wq l d p X Y) (step fine:Int) (hs:1≤step∧step≤20000) (hf:0≤fine∧fine≤1000000) :
  bm Tryz.prog gl 41 [LL l,LD d,.agg (prL p),.agg (cQ X Y),I step,I fine] (.tup [.agg [I (wbS l d p X Y step fine).1.1,I (wbS l d p X Y step fine).1.2],I (wbS l d p X Y step fine).2.1,BO (wbS l d p X Y step fine).2.2]):=by
 have c1:=isStep_con (gl:=gl) step
 have c2:=isFine_con (gl:=gl) fine
 rw [cW hs] at c1
 rw [cW hf] at c2
 have c3:=look_con (gl:=gl) q
 have hll:=len_le q.sol
 have pv:=numsE_ok (prE_one q.pro)
 have hdl:d.length≤64:=Classical.byContradiction fun hc=>by have:=Ge.def_64 (l:=d) (by omega);rw [q.def'] at this;cases this
 have hvd:(vwOf l d p X Y).defs.length≤100:=Nat.le_trans (List.length_filter_le _ _) (by omega)
 have hvz:(vwOf l d p X Y).zones.length≤100000:=by
  show (zonesS l X Y).length≤_
  unfold zonesS
  rw [aT]
  have:=(Ge.sol_V q.sol).n
  omega
 have hvp:(vwOf l d p X Y).p=p:=rfl
 have hvL:(vwOf l d p X Y).len=aw l:=rfl
 unfold wbS
 generalize vwOf l d p X Y=v at *
 obtain ⟨vp,vX,vY,vl,vz,vd⟩:=v
 dsimp only at hvp hvL hvd hvz
 subst hvp
 rw [← hvL] at hll
 clear hvL q
 have c4:=fun (z:an) hz=>vworth_con (gl:=gl) ⟨vp,vX,vY,vl,vz,vd⟩ z fine (by show vp.lens.length≤100000;have:=pv.lens.2.1;omega) hvz hvd hf pv.prices.2 hz
 have hln:=pv.lens
 refine ao Tryz.func41 rfl (by kernel_rfl) rfl ?_
 simp only [Tryz.ntmps41,Tryz.results41,am,ofC,aZ,List.map,prL]
 repeat' (first
 | ((with_reducible apply (ah (f:=84)));exact rfl;exact rfl;exact c1;exact rfl;exact rfl)
 | ((with_reducible apply (ah (f:=85)));exact rfl;exact rfl;exact c2;exact rfl;exact rfl)
 | ((with_reducible apply (ah (f:=86)));exact rfl;exact rfl;exact c3;exact rfl;exact rfl)
 | ((first|((with_reducible apply aj);iterate 4 exact rfl)|((with_reducible apply aa);exact rfl))<;>intro hg<;>(first|(exact absurd hg (by decide))|((try simp only [qz,ge_iff_le,List.cons.injEq,and_true] at hg);first|(exact absurd trivial hg)|(exfalso;omega)|(have hT:True:=hg;clear hT hg)|skip)))
 | (refine zs ?_)
 | fail
 )
 obtain ⟨V,hV⟩:∃ V:Vw,V=⟨vp,vX,vY,vl,vz,vd⟩:=⟨_,rfl⟩
 have c4':∀ (z:an),-100000≤z.1∧z.1≤100000∧-100000≤z.2∧z.2≤100000→bm Tryz.prog gl 87 [.agg (vwL ⟨vp,vX,vY,vl,vz,vd⟩),.agg [I z.1,I z.2],I fine] (.tup [I (dk V z fine).1,BO (dk V z fine).2]):=by rw [hV];exact c4
 have hVl:V.len=vl:=by rw [hV]
 have hVp:V.p.lens=vp.lens:=by rw [hV]
 have hgoal:wbV ⟨vp,vX,vY,vl,vz,vd⟩ fine step=outB V fine step (vl.toNat+1) 0 ((0,0),0,false):=by unfold wbV;rw [hV]
 rw [hgoal]
 clear hgoal hV c4
 refine au (G:=Nat×Int×WB) (fun ((k,t,b):Nat×Int×WB)=>outB V fine step (vl.toNat+1) 0 ((0,0),0,false)=outB V fine step k t b∧0≤t∧vl - t < k∧t≤40000) (fun ((k,t,b):Nat×Int×WB)=>k) (fun ((k,t,b):Nat×Int×WB)=>[(4,A step),(5,A fine),(8,.ptr 0 0),(12,.ptr 2 0),(15,.ptr 3 0),(17,.ptr 4 0),(18,A b.2.1),(19,.c (BO b.2.2)),(20,A t)]) (fun ((k,t,b):Nat×Int×WB)=>[(4,some (.cells 35 [A b.1.1,A b.1.2])),(3,some (vwB ⟨vp,vX,vY,vl,vz,vd⟩)),(2,some (.cells 35 [A 0,A 0])),(0,some (prB vp))]) 5 (vl.toNat+1,0,((0,0),0,false)) ?_ (by refine ak rfl ?_ ?_<;>repeat (first|exact ai|exact ac|refine ae rfl rfl ?_|refine ab rfl rfl rfl ?_)) rfl ?_
 ·exact ⟨rfl,Int.le_refl 0,by show vl - 0 < ((vl.toNat+1:Nat):Int);omega,(by decide:(0:Int)≤40000)⟩
 rintro ⟨k,t,b⟩ hI
 try dsimp only at hI
 try dsimp only
 obtain ⟨he,ht,hk,ht2⟩:=hI
 by_cases htl:t < vl
 ·obtain ⟨k',rfl⟩:∃ k',k=k'+1:=⟨k - 1,by omega⟩
  have e1:outB V fine step (k'+1) t b=outB V fine step k' (t+step) (rowB V fine t vp.lens b):=by
   show (if t < V.len then _ else _)=_
   rw [hVl,if_pos htl,hVp]
  repeat' (first
 | (((with_reducible apply aa);exact rfl)<;>intro hg<;>(first|(exact absurd hg (by decide))|((try simp only [qz,ge_iff_le,List.cons.injEq,and_true] at hg);first|(exact absurd trivial hg)|(exfalso;omega)|(have hT:True:=hg;clear hT hg)|skip)))
 | (refine zs ?_)
 | fail
 )
  refine au (G:=Nat×WB) (fun ((j,c):Nat×WB)=>j≤vp.lens.length∧rowB V fine t vp.lens b=rowB V fine t (vp.lens.drop j) c) (fun ((j,c):Nat×WB)=>vp.lens.length - j) (fun ((j,c):Nat×WB)=>[(4,A step),(5,A fine),(8,.ptr 0 0),(12,.ptr 2 0),(15,.ptr 3 0),(17,.ptr 4 0),(18,A c.2.1),(19,.c (BO c.2.2)),(20,A t),(54,.c (LI vp.lens)),(55,A vp.lens.length),(56,A j)]) (fun ((j,c):Nat×WB)=>[(4,some (.cells 35 [A c.1.1,A c.1.2])),(3,some (vwB ⟨vp,vX,vY,vl,vz,vd⟩)),(2,some (.cells 35 [A 0,A 0])),(0,some (prB vp))]) 5 (0,b) ?_ (by refine ak rfl ?_ ?_<;>repeat (first|exact ai|exact ac|refine ae rfl rfl ?_|refine ab rfl rfl rfl ?_)) rfl ?_
  ·exact ⟨Nat.zero_le _,rfl⟩
  rintro ⟨j,c⟩ hI
  try dsimp only at hI
  try dsimp only
  obtain ⟨hj,hr⟩:=hI
  obtain ⟨⟨z1,z2⟩,most,found⟩:=c
  dsimp only at hr ⊢
  by_cases hjl:j < vp.lens.length
  ·have hnl:=hln.2.2 vp.lens[j] (List.getElem_mem hjl)
   have c5:=c4' (t,t+vp.lens[j]) ⟨by show -100000≤t;omega,by show t≤100000;omega,by show -100000≤t+_;omega,by show t+_≤100000;omega⟩
   have e2:=rowB_next V fine t hjl ((z1,z2),most,found)
   unfold stepB at e2
   dsimp only at e2 c5
   cases hok:(dk V (t,t+vp.lens[j]) fine).2 with
   | false =>
    rw [hok] at c5
    rw [hok,if_neg (fun h=>by cases h.1)] at e2
    generalize (dk V (t,t+vp.lens[j]) fine).1=wv at *
    repeat' (first
 | ((with_reducible apply (ah (f:=87)));exact rfl;exact rfl;exact c5;exact rfl;exact rfl)
 | ((first|((with_reducible apply aj);iterate 4 exact rfl)|((with_reducible apply aa);exact rfl))<;>intro hg<;>(first|(exact absurd hg (by decide))|((try simp only [qz,ge_iff_le,List.cons.injEq,and_true] at hg);first|(exact absurd trivial hg)|(exfalso;omega)|(have hT:True:=hg;clear hT hg)|skip)))
 | (refine zs ?_)
 | fail
 )
    all_goals
     refine ⟨(j+1,((z1,z2),most,found)),?_,?_,by refine ak rfl ?_ ?_<;>repeat (first|exact ai|exact ac|refine ae rfl rfl ?_|refine ab rfl rfl rfl ?_)⟩
     ·show vp.lens.length - (j+1) < vp.lens.length - j;omega
     ·exact ⟨by show j+1≤_;omega,by rw [hr];exact e2⟩
   | true =>
    rw [hok] at c5
    rw [hok] at e2
    generalize (dk V (t,t+vp.lens[j]) fine).1=wv at *
    cases found with
    | false =>
     rw [if_pos ⟨rfl,.inl rfl⟩] at e2
     repeat' (first
 | ((with_reducible apply (ah (f:=87)));exact rfl;exact rfl;exact c5;exact rfl;exact rfl)
 | ((first|((with_reducible apply aj);iterate 4 exact rfl)|((with_reducible apply aa);exact rfl))<;>intro hg<;>(first|(exact absurd hg (by decide))|((try simp only [qz,ge_iff_le,List.cons.injEq,and_true] at hg);first|(exact absurd trivial hg)|(exfalso;omega)|(have hT:True:=hg;clear hT hg)|skip)))
 | (refine zs ?_)
 | fail
 )
     all_goals
      refine ⟨(j+1,((t,t+vp.lens[j]),wv,true)),?_,?_,by refine ak rfl ?_ ?_<;>repeat (first|exact ai|exact ac|refine ae rfl rfl ?_|refine ab rfl rfl rfl ?_)⟩
      ·show vp.lens.length - (j+1) < vp.lens.length - j;omega
      ·exact ⟨by show j+1≤_;omega,by rw [hr];exact e2⟩
    | true =>
     by_cases hgt:most < wv
     ·rw [if_pos ⟨rfl,.inr hgt⟩] at e2
      repeat' (first
 | ((with_reducible apply (ah (f:=87)));exact rfl;exact rfl;exact c5;exact rfl;exact rfl)
 | ((first|((with_reducible apply aj);iterate 4 exact rfl)|((with_reducible apply aa);exact rfl))<;>intro hg<;>(first|(exact absurd hg (by decide))|((try simp only [qz,ge_iff_le,List.cons.injEq,and_true] at hg);first|(exact absurd trivial hg)|(exfalso;omega)|(have hT:True:=hg;clear hT hg)|skip)))
 | (refine zs ?_)
 | fail
 )
      all_goals
       refine ⟨(j+1,((t,t+vp.lens[j]),wv,true)),?_,?_,by refine ak rfl ?_ ?_<;>repeat (first|exact ai|exact ac|refine ae rfl rfl ?_|refine ab rfl rfl rfl ?_)⟩
       ·show vp.lens.length - (j+1) < vp.lens.length - j;omega
       ·exact ⟨by show j+1≤_;omega,by rw [hr];exact e2⟩
     ·rw [if_neg (fun h=>by rcases h.2 with h|h;cases h;exact hgt h)] at e2
      repeat' (first
 | ((with_reducible apply (ah (f:=87)));exact rfl;exact rfl;exact c5;exact rfl;exact rfl)
 | ((first|((with_reducible apply aj);iterate 4 exact rfl)|((with_reducible apply aa);exact rfl))<;>intro hg<;>(first|(exact absurd hg (by decide))|((try simp only [qz,ge_iff_le,List.cons.injEq,and_true] at hg);first|(exact absurd trivial hg)|(exfalso;omega)|(have hT:True:=hg;clear hT hg)|skip)))
 | (refine zs ?_)
 | fail
 )
      all_goals
       refine ⟨(j+1,((z1,z2),most,true)),?_,?_,by refine ak rfl ?_ ?_<;>repeat (first|exact ai|exact ac|refine ae rfl rfl ?_|refine ab rfl rfl rfl ?_)⟩
       ·show vp.lens.length - (j+1) < vp.lens.length - j;omega
       ·exact ⟨by show j+1≤_;omega,by rw [hr];exact e2⟩
  ·rw [List.drop_eq_nil_of_le (by omega)] at hr
   have hr':rowB V fine t vp.lens b=((z1,z2),most,found):=hr
   repeat' (first
 | (((with_reducible apply aa);exact rfl)<;>intro hg<;>(first|(exact absurd hg (by decide))|((try simp only [qz,ge_iff_le,List.cons.injEq,and_true] at hg);first|(exact absurd trivial hg)|(exfalso;omega)|(have hT:True:=hg;clear hT hg)|skip)))
 | (refine zs ?_)
 | fail
 )
   refine ⟨(k',t+step,((z1,z2),most,found)),?_,?_,by refine ak rfl ?_ ?_<;>repeat (first|exact ai|exact ac|refine ae rfl rfl ?_|refine ab rfl rfl rfl ?_)⟩
   ·show k' < k'+1;omega
   ·exact ⟨by rw [he,e1,hr'],by show 0≤t+step;omega,by show vl - (t+step) < (k':Int);omega,by show t+step≤40000;omega⟩
 ·have e1:outB V fine step k t b=b:=by
   cases k with
   | zero=>rfl
   | succ k=>show (if t < V.len then _ else _)=_;rw [hVl,if_neg htl]
  rw [he,e1]
  obtain ⟨⟨z1,z2⟩,most,found⟩:=b
  repeat' (first
 | (((with_reducible apply aa);exact rfl)<;>intro hg<;>(first|(exact absurd hg (by decide))|((try simp only [qz,ge_iff_le,List.cons.injEq,and_true] at hg);first|(exact absurd trivial hg)|(exfalso;omega)|(have hT:True:=hg;clear hT hg)|skip)))
 | (refine zs ?_)
 | fail
 )
  all_goals exact bJ (.cons (.cell_a inferInstance rfl rfl rfl rfl (al ap (al ap bj))) (.cons (.tmp rfl ap) (.cons (.tmp rfl ap) .nil)))
end Go.Proofs.YtdndfncpglfdeaaGreatDoor.Tp
