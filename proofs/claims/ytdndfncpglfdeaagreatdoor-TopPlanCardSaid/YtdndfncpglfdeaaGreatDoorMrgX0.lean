/- PA PE PG PF: texts laid together. -/
import Derived.Test.YtdndfncpglfdeaaGreatDoorMrgC1
import Derived.Test.YtdndfncpglfdeaaGreatDoorMrgE3
import Derived.Test.YtdndfncpglfdeaaGreatDoorMrgE4
import Derived.Test.YtdndfncpglfdeaaGreatDoorMrgG1
import Derived.Test.YtdndfncpglfdeaaGreatDoorMrgM0
import Derived.Test.YtdndfncpglfdeaaGreatDoorMrgS
set_option maxRecDepth 100000
set_option maxHeartbeats 64000000

namespace Go.Proofs.YtdndfncpglfdeaaGreatDoor.Tp
set_option linter.unusedVariables false
set_option linter.unusedSimpArgs false
open Go.RowKit Go.Proofs.YtdndfncpglfdeaaGreatDoor.Ev
open Go.Proofs.YtdndfncpglfdeaaGreatDoor.Cu (I LI ce fP)
variable {gl:List (Nat×List CV)}
abbrev A (n:Int):AV:=.c (I n)
abbrev S (s:ByteArray):CV:=.v (.string s)
abbrev BO (b:Bool):CV:=.v (.bool b)
structure Pr where
 name:ByteArray
 thick:Int
 width:Int
 allow:Int
 wane:Int
 lens:List Int
 prices:List Int
def prL (p:Pr):List CV:=[S p.name,I p.thick,I p.width,I p.allow,I p.wane,LI p.lens,LI p.prices]
instance:EncL prL 7:=⟨fun _=>rfl,by decide,fun _=>rfl⟩
abbrev prC (p:Pr):CV:=.agg (prL p)
abbrev fj (l:List Pr):CV:=.lst 7 (l.flatMap prL)
def isSz (n:Int):Bool:=decide (1≤n) && decide (n≤600)
theorem fw {n:Int}:isSz n=true↔1≤n∧n≤600:=by unfold isSz;simp
theorem isSize_con (n:Int):bm Tryz.prog gl 137 [I n] (BO (isSz n)):=by
 refine ao Tryz.func137 rfl (by kernel_rfl) rfl ?_
 simp only [Tryz.ntmps137,Tryz.results137,am,ofC,aZ,List.map]
 by_cases h1:1≤n<;>by_cases h2:n≤600<;>simp only [isSz,h1,h2,decide_true,decide_false,Bool.and_true,Bool.and_false]
 all_goals
  repeat' (first
 | (((with_reducible apply aj);iterate 4 exact rfl)<;>intro hg<;>(first|(exact absurd hg (by decide))|((try simp only [qz,ge_iff_le,List.cons.injEq,and_true] at hg);first|(exact absurd trivial hg)|(exfalso;omega)|(have hT:True:=hg;clear hT hg)|skip)))
 | (refine zs ?_)
 | fail
 )
  all_goals exact aK rfl (by simp [*])
def gU (s a:Int):Int:=(s * (1000+a)+999).tdiv 1000
theorem mul_bd {s a:Int} (hs:1≤s∧s≤600) (ha:0≤a∧a≤200):0≤s * (1000+a)∧s * (1000+a)≤720000 :=
 ⟨Int.mul_nonneg (by omega) (by omega),Int.le_trans (Int.mul_le_mul hs.2 (by omega:1000+a≤1200) (by omega) (by omega)) (by decide)⟩
theorem grow_bd {s a:Int} (hs:1≤s∧s≤600) (ha:0≤a∧a≤200):s≤gU s a∧gU s a≤720:=by
 have h:=mul_bd hs ha
 have h2:s * 1000≤s * (1000+a):=Int.mul_le_mul_of_nonneg_left (by omega) (by omega)
 unfold gU
 rw [Int.tdiv_eq_ediv_of_nonneg (by omega)]
 omega
theorem grow_con (s a:Int) (hs:1≤s∧s≤600) (ha:0≤a∧a≤200):bm Tryz.prog gl 138 [I s,I a] (I (gU s a)):=by
 have h:=mul_bd hs ha
 have hb:=grow_bd hs ha
 unfold gU at hb
 refine ao Tryz.func138 rfl (by kernel_rfl) rfl ?_
 simp only [Tryz.ntmps138,Tryz.results138,am,ofC,aZ,List.map]
 repeat' (first
 | ((with_reducible apply r_quo);exact rfl;exact rfl;decide;exact (by unfold aQ;omega);exact rfl)
 | (refine zs ?_)
 | fail
 )
 all_goals exact aB rfl rfl
def gz (p:Pr):Prop:=(1≤p.thick∧p.thick≤600)∧(1≤p.width∧p.width≤600)∧0≤p.allow∧p.allow≤200
instance (p:Pr):Decidable (gz p):=inferInstanceAs (Decidable (_∧_))
def aW (p:Pr):Int×Int:=if gz p then (gU p.thick p.allow,gU p.width p.allow) else (0,0)
theorem hO (p:Pr):bm Tryz.prog gl 99 [prC p] (.tup [I (aW p).1,I (aW p).2]):=by
 have c1:=isSize_con (gl:=gl) p.thick
 have c2:=isSize_con (gl:=gl) p.width
 unfold aW
 by_cases h:gz p
 ·rw [if_pos h]
  obtain ⟨h1,h2,h3⟩:=h
  have e1:=fw.2 h1
  have e2:=fw.2 h2
  rw [e1] at c1
  rw [e2] at c2
  have c3:=grow_con (gl:=gl) p.thick p.allow h1 h3
  have c4:=grow_con (gl:=gl) p.width p.allow h2 h3
  refine ao Tryz.func99 rfl (by kernel_rfl) rfl ?_
  simp only [Tryz.ntmps99,Tryz.results99,am,ofC,aZ,List.map,prL]
  repeat' (first
 | ((with_reducible apply (ah (f:=137)));exact rfl;exact rfl;(first|exact c1|exact c2);exact rfl;exact rfl)
 | ((with_reducible apply (ah (f:=138)));exact rfl;exact rfl;(first|exact c3|exact c4);exact rfl;exact rfl)
 | ((first|((with_reducible apply aj);iterate 4 exact rfl)|((with_reducible apply aa);exact rfl))<;>intro hg<;>(first|(exact absurd hg (by decide))|((try simp only [qz,ge_iff_le,List.cons.injEq,and_true] at hg);first|(exact absurd trivial hg)|(exfalso;omega)|(have hT:True:=hg;clear hT hg)|skip)))
 | (refine zs ?_)
 | fail
 )
  all_goals exact bJ (.cons (.tmp rfl ap) (.cons (.tmp rfl ap) .nil))
 ·rw [if_neg h]
  unfold gz at h
  cases e1:isSz p.thick with
  | false =>
   rw [e1] at c1
   refine ao Tryz.func99 rfl (by kernel_rfl) rfl ?_
   simp only [Tryz.ntmps99,Tryz.results99,am,ofC,aZ,List.map,prL]
   repeat' (first
 | ((with_reducible apply (ah (f:=137)));exact rfl;exact rfl;(first|exact c1|exact c2);exact rfl;exact rfl)
 | ((first|((with_reducible apply aj);iterate 4 exact rfl)|((with_reducible apply aa);exact rfl))<;>intro hg<;>(first|(exact absurd hg (by decide))|((try simp only [qz,ge_iff_le,List.cons.injEq,and_true] at hg);first|(exact absurd trivial hg)|(exfalso;omega)|(have hT:True:=hg;clear hT hg)|skip)))
 | (refine zs ?_)
 | fail
 )
   all_goals exact bJ (.cons (.tmp rfl ap) (.cons (.tmp rfl ap) .nil))
  | true =>
  rw [e1] at c1
  cases e2:isSz p.width with
  | false =>
   rw [e2] at c2
   refine ao Tryz.func99 rfl (by kernel_rfl) rfl ?_
   simp only [Tryz.ntmps99,Tryz.results99,am,ofC,aZ,List.map,prL]
   repeat' (first
 | ((with_reducible apply (ah (f:=137)));exact rfl;exact rfl;(first|exact c1|exact c2);exact rfl;exact rfl)
 | ((first|((with_reducible apply aj);iterate 4 exact rfl)|((with_reducible apply aa);exact rfl))<;>intro hg<;>(first|(exact absurd hg (by decide))|((try simp only [qz,ge_iff_le,List.cons.injEq,and_true] at hg);first|(exact absurd trivial hg)|(exfalso;omega)|(have hT:True:=hg;clear hT hg)|skip)))
 | (refine zs ?_)
 | fail
 )
   all_goals exact bJ (.cons (.tmp rfl ap) (.cons (.tmp rfl ap) .nil))
  | true =>
  rw [e2] at c2
  have h1:=fw.1 e1
  have h2:=fw.1 e2
  refine ao Tryz.func99 rfl (by kernel_rfl) rfl ?_
  simp only [Tryz.ntmps99,Tryz.results99,am,ofC,aZ,List.map,prL]
  repeat' (first
 | ((with_reducible apply (ah (f:=137)));exact rfl;exact rfl;(first|exact c1|exact c2);exact rfl;exact rfl)
 | ((first|((with_reducible apply aj);iterate 4 exact rfl)|((with_reducible apply aa);exact rfl))<;>intro hg<;>(first|(exact absurd hg (by decide))|((try simp only [qz,ge_iff_le,List.cons.injEq,and_true] at hg);first|(exact absurd trivial hg)|(exfalso;omega)|(have hT:True:=hg;clear hT hg)|skip)))
 | (refine zs ?_)
 | fail
 )
  all_goals exact bJ (.cons (.tmp rfl ap) (.cons (.tmp rfl ap) .nil))
def szdS (p:Pr):Bool:=isSz p.thick && isSz p.width
theorem sized_con (p:Pr):bm Tryz.prog gl 119 [prC p] (BO (szdS p)):=by
 refine ao Tryz.func119 rfl (by kernel_rfl) rfl ?_
 simp only [Tryz.ntmps119,Tryz.results119,am,ofC,aZ,List.map,prL]
 by_cases h1:1≤p.thick<;>by_cases h2:p.thick≤600<;>by_cases h3:1≤p.width<;>by_cases h4:p.width≤600<;>simp only [szdS,isSz,h1,h2,h3,h4,decide_true,decide_false,Bool.and_true,Bool.and_false,Bool.false_and]
 all_goals
  repeat' (first
 | (((with_reducible apply aj);iterate 4 exact rfl)<;>intro hg<;>(first|(exact absurd hg (by decide))|((try simp only [qz,ge_iff_le,List.cons.injEq,and_true] at hg);first|(exact absurd trivial hg)|(exfalso;omega)|(have hT:True:=hg;clear hT hg)|skip)))
 | (refine zs ?_)
 | fail
 )
  all_goals exact aK rfl (by simp [*])
theorem iD (p:Pr):bm Tryz.prog gl 68 [prC p] (.tup [I (aW p).1,I (aW p).2]):=by
 have c1:=sized_con (gl:=gl) p
 unfold aW
 by_cases h:gz p
 ·rw [if_pos h]
  obtain ⟨h1,h2,h3⟩:=h
  have e1:szdS p=true:=by unfold szdS;rw [fw.2 h1,fw.2 h2];rfl
  rw [e1] at c1
  have m1:=mul_bd h1 h3
  have m2:=mul_bd h2 h3
  have b1:=grow_bd h1 h3
  have b2:=grow_bd h2 h3
  unfold gU at b1 b2
  refine ao Tryz.func68 rfl (by kernel_rfl) rfl ?_
  simp only [Tryz.ntmps68,Tryz.results68,am,ofC,aZ,List.map,prL]
  repeat' (first
 | ((with_reducible apply (ah (f:=119)));exact rfl;exact rfl;exact c1;exact rfl;exact rfl)
 | ((with_reducible apply r_quo);exact rfl;exact rfl;decide;exact (by unfold aQ;omega);exact rfl)
 | ((first|((with_reducible apply aj);iterate 4 exact rfl)|((with_reducible apply aa);exact rfl))<;>intro hg<;>(first|(exact absurd hg (by decide))|((try simp only [qz,ge_iff_le,List.cons.injEq,and_true] at hg);first|(exact absurd trivial hg)|(exfalso;omega)|(have hT:True:=hg;clear hT hg)|skip)))
 | (refine zs ?_)
 | fail
 )
  all_goals exact bJ (.cons (.tmp rfl ap) (.cons (.tmp rfl ap) .nil))
 ·rw [if_neg h]
  unfold gz at h
  cases e1:szdS p with
  | false =>
   rw [e1] at c1
   refine ao Tryz.func68 rfl (by kernel_rfl) rfl ?_
   simp only [Tryz.ntmps68,Tryz.results68,am,ofC,aZ,List.map,prL]
   repeat' (first
 | ((with_reducible apply (ah (f:=119)));exact rfl;exact rfl;exact c1;exact rfl;exact rfl)
 | ((first|((with_reducible apply aj);iterate 4 exact rfl)|((with_reducible apply aa);exact rfl))<;>intro hg<;>(first|(exact absurd hg (by decide))|((try simp only [qz,ge_iff_le,List.cons.injEq,and_true] at hg);first|(exact absurd trivial hg)|(exfalso;omega)|(have hT:True:=hg;clear hT hg)|skip)))
 | (refine zs ?_)
 | fail
 )
   all_goals exact bJ (.cons (.tmp rfl ap) (.cons (.tmp rfl ap) .nil))
  | true =>
  rw [e1] at c1
  unfold szdS at e1
  rw [Bool.and_eq_true] at e1
  have h1:=fw.1 e1.1
  have h2:=fw.1 e1.2
  refine ao Tryz.func68 rfl (by kernel_rfl) rfl ?_
  simp only [Tryz.ntmps68,Tryz.results68,am,ofC,aZ,List.map,prL]
  repeat' (first
 | ((with_reducible apply (ah (f:=119)));exact rfl;exact rfl;exact c1;exact rfl;exact rfl)
 | ((first|((with_reducible apply aj);iterate 4 exact rfl)|((with_reducible apply aa);exact rfl))<;>intro hg<;>(first|(exact absurd hg (by decide))|((try simp only [qz,ge_iff_le,List.cons.injEq,and_true] at hg);first|(exact absurd trivial hg)|(exfalso;omega)|(have hT:True:=hg;clear hT hg)|skip)))
 | (refine zs ?_)
 | fail
 )
  all_goals exact bJ (.cons (.tmp rfl ap) (.cons (.tmp rfl ap) .nil))
def iS:List Int→List Int→Int→Int×Bool
 | [],_,_=>(0,false)
 | x::xs,ps,n=>if x=n then (match ps with|[]=>(0,false)|q::_=>(q,true)) else iS xs ps.tail n
def gS (p:Pr) (n:Int):Int×Bool:=iS p.lens p.prices n
theorem priceG_next {ls ps:List Int} {n:Int} {j:Nat} (h:j < ls.length) (hn:ls[j]≠n):iS (ls.drop j) (ps.drop j) n=iS (ls.drop (j+1)) (ps.drop (j+1)) n:=by
 rw [List.drop_eq_getElem_cons h]
 show (if ls[j]=n then _ else _)=_
 rw [if_neg hn,List.tail_drop]
theorem priceG_hit {ls ps:List Int} {n:Int} {j:Nat} (h:j < ls.length) (hn:ls[j]=n):iS (ls.drop j) (ps.drop j) n=if h2:j < ps.length then (ps[j],true) else (0,false):=by
 rw [List.drop_eq_getElem_cons h]
 show (if ls[j]=n then _ else _)=_
 rw [if_pos hn]
 split
 ·rename_i e
  rw [dif_neg (by have:=List.drop_eq_nil_iff.1 e;omega)]
 ·rename_i q _ e
  have h2:j < ps.length:=by
   refine Classical.byContradiction fun hh=>?_
   rw [List.drop_eq_nil_of_le (by omega)] at e;cases e
  rw [dif_pos h2]
  rw [List.drop_eq_getElem_cons h2] at e
  injection e with e1 _
  rw [e1]
theorem price_con (p:Pr) (n:Int) (hL:p.lens.length≤100000):bm Tryz.prog gl 130 [prC p,I n] (.tup [I (gS p n).1,BO (gS p n).2]):=by
 refine ao Tryz.func130 rfl (by kernel_rfl) rfl ?_
 simp only [Tryz.ntmps130,Tryz.results130,am,ofC,aZ,List.map,prL]
 repeat' (first
 | (refine zs ?_)
 | fail
 )
 refine au (G:=Nat) (fun (j:Nat)=>j≤p.lens.length∧gS p n=iS (p.lens.drop j) (p.prices.drop j) n) (fun (j:Nat)=>p.lens.length - j) (fun (j:Nat)=>[(1,A n),(2,.ptr 0 0),(9,.c (LI p.lens)),(10,A p.lens.length),(11,A j)]) (fun (j:Nat)=>[(0,some (.cells 60 ((prL p).map .c)))]) 1 0 ?_ (by refine ak rfl ?_ ?_<;>repeat (first|exact ai|exact ac|refine ae rfl rfl ?_|refine ab rfl rfl rfl ?_)) rfl ?_
 ·exact ⟨Nat.zero_le _,rfl⟩
 rintro j hI
 try dsimp only at hI
 try dsimp only
 obtain ⟨hj,hp⟩:=hI
 by_cases hjl:j < p.lens.length
 ·by_cases hn:p.lens[j]=n
  ·rw [hp,priceG_hit hjl hn]
   by_cases h2:j < p.prices.length
   ·rw [dif_pos h2]
    repeat' (first
 | (((with_reducible apply aa);exact rfl)<;>intro hg<;>(first|(exact absurd hg (by decide))|((try simp only [qz,ge_iff_le,List.cons.injEq,and_true] at hg);first|(exact absurd trivial hg)|(exfalso;omega)|(have hT:True:=hg;clear hT hg)|skip)))
 | (refine zs ?_)
 | fail
 )
    all_goals exact bJ (.cons (.tmp rfl ap) (.cons (.tmp rfl ap) .nil))
   ·rw [dif_neg h2]
    repeat' (first
 | (((with_reducible apply aa);exact rfl)<;>intro hg<;>(first|(exact absurd hg (by decide))|((try simp only [qz,ge_iff_le,List.cons.injEq,and_true] at hg);first|(exact absurd trivial hg)|(exfalso;omega)|(have hT:True:=hg;clear hT hg)|skip)))
 | (refine zs ?_)
 | fail
 )
    all_goals exact bJ (.cons (.tmp rfl ap) (.cons (.tmp rfl ap) .nil))
  ·skip
   repeat' (first
 | (((with_reducible apply aa);exact rfl)<;>intro hg<;>(first|(exact absurd hg (by decide))|((try simp only [qz,ge_iff_le,List.cons.injEq,and_true] at hg);first|(exact absurd trivial hg)|(exfalso;omega)|(have hT:True:=hg;clear hT hg)|skip)))
 | (refine zs ?_)
 | fail
 )
   refine ⟨j+1,?_,?_,by refine ak rfl ?_ ?_<;>repeat (first|exact ai|exact ac|refine ae rfl rfl ?_|refine ab rfl rfl rfl ?_)⟩
   ·omega
   ·exact ⟨by omega,by rw [hp];exact priceG_next hjl hn⟩
 ·rw [hp,List.drop_eq_nil_of_le (by omega)]
  repeat' (first
 | (((with_reducible apply aa);exact rfl)<;>intro hg<;>(first|(exact absurd hg (by decide))|((try simp only [qz,ge_iff_le,List.cons.injEq,and_true] at hg);first|(exact absurd trivial hg)|(exfalso;omega)|(have hT:True:=hg;clear hT hg)|skip)))
 | (refine zs ?_)
 | fail
 )
  all_goals exact bJ (.cons (.tmp rfl ap) (.cons (.tmp rfl ap) .nil))
end Go.Proofs.YtdndfncpglfdeaaGreatDoor.Tp

namespace Go.Proofs.YtdndfncpglfdeaaGreatDoor.Tp
set_option linter.unusedVariables false
set_option linter.unusedSimpArgs false
open Go.RowKit Go.Proofs.YtdndfncpglfdeaaGreatDoor.Ev
open Go.Proofs.YtdndfncpglfdeaaGreatDoor.Cu (I LI ce fP)
variable {gl:List (Nat×List CV)}
structure Sw where
 kerf:Int
 trim:Int
 pitch:Int
 step:Int
def swL (s:Sw):List CV:=[I s.kerf,I s.trim,I s.pitch,I s.step]
abbrev swC (s:Sw):CV:=.agg (swL s)
structure Rt where
 chip:Int
 dust:Int
 fine:Int
def rtL (r:Rt):List CV:=[I r.chip,I r.dust,I r.fine]
abbrev rtC (r:Rt):CV:=.agg (rtL r)
def SwOk (s:Sw):Prop:=0≤s.kerf∧s.kerf≤20∧0≤s.trim∧s.trim≤20∧1≤s.pitch∧s.pitch≤2000∧1≤s.step∧s.step≤20000
def RtOk (r:Rt):Prop:=0≤r.chip∧r.chip≤1000∧0≤r.dust∧r.dust≤1000∧0≤r.fine∧r.fine≤1000000
instance (s:Sw):Decidable (SwOk s):=inferInstanceAs (Decidable (_∧_))
instance (r:Rt):Decidable (RtOk r):=inferInstanceAs (Decidable (_∧_))
def srE (s:Sw) (r:Rt):Int:=if SwOk s∧RtOk r then 0 else 9
theorem go {s:Sw} {r:Rt}:srE s r=0↔SwOk s∧RtOk r:=by
 unfold srE
 split
 ·exact ⟨fun _=>‹_›,fun _=>rfl⟩
 ·exact ⟨fun h=>(by cases h),fun h=>absurd h ‹_›⟩
def fromS (n a b:Int):Bool:=decide (a≤n) && decide (n≤b)
theorem cW {n a b:Int} (h:a≤n∧n≤b):fromS n a b=true:=by unfold fromS;simp [h.1,h.2]
theorem eF {n a b:Int} (h:¬ (a≤n∧n≤b)):fromS n a b=false:=by
 unfold fromS
 by_cases h1:a≤n
 ·have h2:¬ n≤b:=fun e=>h ⟨h1,e⟩
  simp [h2]
 ·simp [h1]
theorem isStep_con (n:Int):bm Tryz.prog gl 84 [I n] (BO (fromS n 1 20000)):=by
 refine ao Tryz.func84 rfl (by kernel_rfl) rfl ?_
 simp only [Tryz.ntmps84,Tryz.results84,am,ofC,aZ,List.map]
 by_cases h1:1≤n<;>by_cases h2:n≤20000<;>simp only [fromS,h1,h2,decide_true,decide_false,Bool.and_true,Bool.and_false]
 all_goals
  repeat' (first
 | (((with_reducible apply aj);iterate 4 exact rfl)<;>intro hg<;>(first|(exact absurd hg (by decide))|((try simp only [qz,ge_iff_le,List.cons.injEq,and_true] at hg);first|(exact absurd trivial hg)|(exfalso;omega)|(have hT:True:=hg;clear hT hg)|skip)))
 | (refine zs ?_)
 | fail
 )
  all_goals exact aK rfl (by simp [*])
theorem isFine_con (n:Int):bm Tryz.prog gl 85 [I n] (BO (fromS n 0 1000000)):=by
 refine ao Tryz.func85 rfl (by kernel_rfl) rfl ?_
 simp only [Tryz.ntmps85,Tryz.results85,am,ofC,aZ,List.map]
 by_cases h1:0≤n<;>by_cases h2:n≤1000000<;>simp only [fromS,h1,h2,decide_true,decide_false,Bool.and_true,Bool.and_false]
 all_goals
  repeat' (first
 | (((with_reducible apply aj);iterate 4 exact rfl)<;>intro hg<;>(first|(exact absurd hg (by decide))|((try simp only [qz,ge_iff_le,List.cons.injEq,and_true] at hg);first|(exact absurd trivial hg)|(exfalso;omega)|(have hT:True:=hg;clear hT hg)|skip)))
 | (refine zs ?_)
 | fail
 )
  all_goals exact aK rfl (by simp [*])
theorem fZ (n a b:Int):bm Tryz.prog gl 70 [I n,I a,I b] (BO (fromS n a b)):=by
 refine ao Tryz.func70 rfl (by kernel_rfl) rfl ?_
 simp only [Tryz.ntmps70,Tryz.results70,am,ofC,aZ,List.map]
 by_cases h1:a≤n<;>by_cases h2:n≤b<;>simp only [fromS,h1,h2,decide_true,decide_false,Bool.and_true,Bool.and_false]
 all_goals
  repeat' (first
 | (((with_reducible apply aj);iterate 4 exact rfl)<;>intro hg<;>(first|(exact absurd hg (by decide))|((try simp only [qz,ge_iff_le,List.cons.injEq,and_true] at hg);first|(exact absurd trivial hg)|(exfalso;omega)|(have hT:True:=hg;clear hT hg)|skip)))
 | (refine zs ?_)
 | fail
 )
  all_goals exact aK rfl (by simp [*])
theorem wcheck_con (s:Sw) (r:Rt):bm Tryz.prog gl 51 [swC s,rtC r] (I (srE s r)):=by
 have c1:=isStep_con (gl:=gl) s.step
 have c2:=isFine_con (gl:=gl) r.fine
 by_cases h1:1≤s.step∧s.step≤20000
 ·rw [cW h1] at c1
  by_cases h2:0≤r.fine∧r.fine≤1000000
  ·rw [cW h2] at c2
   by_cases h:SwOk s∧RtOk r
   ·have e:srE s r=0:=go.2 h
    obtain ⟨⟨a1,a2,a3,a4,a5,a6,a7,a8⟩,b1,b2,b3,b4,b5,b6⟩:=h
    rw [e]
    refine ao Tryz.func51 rfl (by kernel_rfl) rfl ?_
    simp only [Tryz.ntmps51,Tryz.results51,am,ofC,aZ,List.map,swL,rtL]
    repeat' (first
 | ((with_reducible apply (ah (f:=84)));exact rfl;exact rfl;exact c1;exact rfl;exact rfl)
 | ((with_reducible apply (ah (f:=85)));exact rfl;exact rfl;exact c2;exact rfl;exact rfl)
 | ((first|((with_reducible apply aj);iterate 4 exact rfl)|((with_reducible apply aa);exact rfl))<;>intro hg<;>(first|(exact absurd hg (by decide))|((try simp only [qz,ge_iff_le,List.cons.injEq,and_true] at hg);first|(exact absurd trivial hg)|(exfalso;omega)|(have hT:True:=hg;clear hT hg)|skip)))
 | (refine zs ?_)
 | fail
 )
    all_goals exact aB rfl rfl
   ·have e:srE s r=9:=by unfold srE;rw [if_neg h]
    rw [e]
    unfold SwOk RtOk at h
    refine ao Tryz.func51 rfl (by kernel_rfl) rfl ?_
    simp only [Tryz.ntmps51,Tryz.results51,am,ofC,aZ,List.map,swL,rtL]
    repeat' (first
 | ((with_reducible apply (ah (f:=84)));exact rfl;exact rfl;exact c1;exact rfl;exact rfl)
 | ((with_reducible apply (ah (f:=85)));exact rfl;exact rfl;exact c2;exact rfl;exact rfl)
 | ((first|((with_reducible apply aj);iterate 4 exact rfl)|((with_reducible apply aa);exact rfl))<;>intro hg<;>(first|(exact absurd hg (by decide))|((try simp only [qz,ge_iff_le,List.cons.injEq,and_true] at hg);first|(exact absurd trivial hg)|(exfalso;omega)|(have hT:True:=hg;clear hT hg)|skip)))
 | (refine zs ?_)
 | fail
 )
    all_goals exact aB rfl rfl
  ·have e:srE s r=9:=by unfold srE;rw [if_neg (fun h=>h2 h.2.2.2.2.2)]
   rw [eF h2] at c2
   rw [e]
   refine ao Tryz.func51 rfl (by kernel_rfl) rfl ?_
   simp only [Tryz.ntmps51,Tryz.results51,am,ofC,aZ,List.map,swL,rtL]
   repeat' (first
 | ((with_reducible apply (ah (f:=84)));exact rfl;exact rfl;exact c1;exact rfl;exact rfl)
 | ((with_reducible apply (ah (f:=85)));exact rfl;exact rfl;exact c2;exact rfl;exact rfl)
 | ((first|((with_reducible apply aj);iterate 4 exact rfl)|((with_reducible apply aa);exact rfl))<;>intro hg<;>(first|(exact absurd hg (by decide))|((try simp only [qz,ge_iff_le,List.cons.injEq,and_true] at hg);first|(exact absurd trivial hg)|(exfalso;omega)|(have hT:True:=hg;clear hT hg)|skip)))
 | (refine zs ?_)
 | fail
 )
   all_goals exact aB rfl rfl
 ·have e:srE s r=9:=by unfold srE;rw [if_neg (fun h=>h1 h.1.2.2.2.2.2.2)]
  rw [eF h1] at c1
  rw [e]
  refine ao Tryz.func51 rfl (by kernel_rfl) rfl ?_
  simp only [Tryz.ntmps51,Tryz.results51,am,ofC,aZ,List.map,swL,rtL]
  repeat' (first
 | ((with_reducible apply (ah (f:=84)));exact rfl;exact rfl;exact c1;exact rfl;exact rfl)
 | ((first|((with_reducible apply aj);iterate 4 exact rfl)|((with_reducible apply aa);exact rfl))<;>intro hg<;>(first|(exact absurd hg (by decide))|((try simp only [qz,ge_iff_le,List.cons.injEq,and_true] at hg);first|(exact absurd trivial hg)|(exfalso;omega)|(have hT:True:=hg;clear hT hg)|skip)))
 | (refine zs ?_)
 | fail
 )
  all_goals exact aB rfl rfl
theorem rwcheck_con (s:Sw) (r:Rt):bm Tryz.prog gl 30 [swC s,rtC r] (I (srE s r)):=by
 have c1:=fZ (gl:=gl) s.kerf 0 20
 have c2:=fZ (gl:=gl) s.trim 0 20
 have c3:=fZ (gl:=gl) s.pitch 1 2000
 have c4:=fZ (gl:=gl) s.step 1 20000
 have c5:=fZ (gl:=gl) r.chip 0 1000
 have c6:=fZ (gl:=gl) r.dust 0 1000
 have c7:=fZ (gl:=gl) r.fine 0 1000000
 by_cases h1:0≤s.kerf∧s.kerf≤20
 rotate_left
 ·have e:srE s r=9:=by unfold srE;rw [if_neg (fun h=>h1 ⟨h.1.1,h.1.2.1⟩)]
  rw [eF h1] at c1
  rw [e]
  refine ao Tryz.func30 rfl (by kernel_rfl) rfl ?_
  simp only [Tryz.ntmps30,Tryz.results30,am,ofC,aZ,List.map,swL,rtL]
  repeat' (first
 | ((with_reducible apply (ah (f:=70)));exact rfl;exact rfl;(first|exact c1|exact c2|exact c3|exact c4|exact c5|exact c6|exact c7);exact rfl;exact rfl)
 | ((first|((with_reducible apply aj);iterate 4 exact rfl)|((with_reducible apply aa);exact rfl))<;>intro hg<;>(first|(exact absurd hg (by decide))|((try simp only [qz,ge_iff_le,List.cons.injEq,and_true] at hg);first|(exact absurd trivial hg)|(exfalso;omega)|(have hT:True:=hg;clear hT hg)|skip)))
 | (refine zs ?_)
 | fail
 )
  all_goals exact aB rfl rfl
 rw [cW h1] at c1
 by_cases h2:0≤s.trim∧s.trim≤20
 rotate_left
 ·have e:srE s r=9:=by unfold srE;rw [if_neg (fun h=>h2 ⟨h.1.2.2.1,h.1.2.2.2.1⟩)]
  rw [eF h2] at c2
  rw [e]
  refine ao Tryz.func30 rfl (by kernel_rfl) rfl ?_
  simp only [Tryz.ntmps30,Tryz.results30,am,ofC,aZ,List.map,swL,rtL]
  repeat' (first
 | ((with_reducible apply (ah (f:=70)));exact rfl;exact rfl;(first|exact c1|exact c2|exact c3|exact c4|exact c5|exact c6|exact c7);exact rfl;exact rfl)
 | ((first|((with_reducible apply aj);iterate 4 exact rfl)|((with_reducible apply aa);exact rfl))<;>intro hg<;>(first|(exact absurd hg (by decide))|((try simp only [qz,ge_iff_le,List.cons.injEq,and_true] at hg);first|(exact absurd trivial hg)|(exfalso;omega)|(have hT:True:=hg;clear hT hg)|skip)))
 | (refine zs ?_)
 | fail
 )
  all_goals exact aB rfl rfl
 rw [cW h2] at c2
 by_cases h3:1≤s.pitch∧s.pitch≤2000
 rotate_left
 ·have e:srE s r=9:=by unfold srE;rw [if_neg (fun h=>h3 ⟨h.1.2.2.2.2.1,h.1.2.2.2.2.2.1⟩)]
  rw [eF h3] at c3
  rw [e]
  refine ao Tryz.func30 rfl (by kernel_rfl) rfl ?_
  simp only [Tryz.ntmps30,Tryz.results30,am,ofC,aZ,List.map,swL,rtL]
  repeat' (first
 | ((with_reducible apply (ah (f:=70)));exact rfl;exact rfl;(first|exact c1|exact c2|exact c3|exact c4|exact c5|exact c6|exact c7);exact rfl;exact rfl)
 | ((first|((with_reducible apply aj);iterate 4 exact rfl)|((with_reducible apply aa);exact rfl))<;>intro hg<;>(first|(exact absurd hg (by decide))|((try simp only [qz,ge_iff_le,List.cons.injEq,and_true] at hg);first|(exact absurd trivial hg)|(exfalso;omega)|(have hT:True:=hg;clear hT hg)|skip)))
 | (refine zs ?_)
 | fail
 )
  all_goals exact aB rfl rfl
 rw [cW h3] at c3
 by_cases h4:1≤s.step∧s.step≤20000
 rotate_left
 ·have e:srE s r=9:=by unfold srE;rw [if_neg (fun h=>h4 ⟨h.1.2.2.2.2.2.2.1,h.1.2.2.2.2.2.2.2⟩)]
  rw [eF h4] at c4
  rw [e]
  refine ao Tryz.func30 rfl (by kernel_rfl) rfl ?_
  simp only [Tryz.ntmps30,Tryz.results30,am,ofC,aZ,List.map,swL,rtL]
  repeat' (first
 | ((with_reducible apply (ah (f:=70)));exact rfl;exact rfl;(first|exact c1|exact c2|exact c3|exact c4|exact c5|exact c6|exact c7);exact rfl;exact rfl)
 | ((first|((with_reducible apply aj);iterate 4 exact rfl)|((with_reducible apply aa);exact rfl))<;>intro hg<;>(first|(exact absurd hg (by decide))|((try simp only [qz,ge_iff_le,List.cons.injEq,and_true] at hg);first|(exact absurd trivial hg)|(exfalso;omega)|(have hT:True:=hg;clear hT hg)|skip)))
 | (refine zs ?_)
 | fail
 )
  all_goals exact aB rfl rfl
 rw [cW h4] at c4
 by_cases h5:0≤r.chip∧r.chip≤1000
 rotate_left
 ·have e:srE s r=9:=by unfold srE;rw [if_neg (fun h=>h5 ⟨h.2.1,h.2.2.1⟩)]
  rw [eF h5] at c5
  rw [e]
  refine ao Tryz.func30 rfl (by kernel_rfl) rfl ?_
  simp only [Tryz.ntmps30,Tryz.results30,am,ofC,aZ,List.map,swL,rtL]
  repeat' (first
 | ((with_reducible apply (ah (f:=70)));exact rfl;exact rfl;(first|exact c1|exact c2|exact c3|exact c4|exact c5|exact c6|exact c7);exact rfl;exact rfl)
 | ((first|((with_reducible apply aj);iterate 4 exact rfl)|((with_reducible apply aa);exact rfl))<;>intro hg<;>(first|(exact absurd hg (by decide))|((try simp only [qz,ge_iff_le,List.cons.injEq,and_true] at hg);first|(exact absurd trivial hg)|(exfalso;omega)|(have hT:True:=hg;clear hT hg)|skip)))
 | (refine zs ?_)
 | fail
 )
  all_goals exact aB rfl rfl
 rw [cW h5] at c5
 by_cases h6:0≤r.dust∧r.dust≤1000
 rotate_left
 ·have e:srE s r=9:=by unfold srE;rw [if_neg (fun h=>h6 ⟨h.2.2.2.1,h.2.2.2.2.1⟩)]
  rw [eF h6] at c6
  rw [e]
  refine ao Tryz.func30 rfl (by kernel_rfl) rfl ?_
  simp only [Tryz.ntmps30,Tryz.results30,am,ofC,aZ,List.map,swL,rtL]
  repeat' (first
 | ((with_reducible apply (ah (f:=70)));exact rfl;exact rfl;(first|exact c1|exact c2|exact c3|exact c4|exact c5|exact c6|exact c7);exact rfl;exact rfl)
 | ((first|((with_reducible apply aj);iterate 4 exact rfl)|((with_reducible apply aa);exact rfl))<;>intro hg<;>(first|(exact absurd hg (by decide))|((try simp only [qz,ge_iff_le,List.cons.injEq,and_true] at hg);first|(exact absurd trivial hg)|(exfalso;omega)|(have hT:True:=hg;clear hT hg)|skip)))
 | (refine zs ?_)
 | fail
 )
  all_goals exact aB rfl rfl
 rw [cW h6] at c6
 by_cases h7:0≤r.fine∧r.fine≤1000000
 rotate_left
 ·have e:srE s r=9:=by unfold srE;rw [if_neg (fun h=>h7 ⟨h.2.2.2.2.2.1,h.2.2.2.2.2.2⟩)]
  rw [eF h7] at c7
  rw [e]
  refine ao Tryz.func30 rfl (by kernel_rfl) rfl ?_
  simp only [Tryz.ntmps30,Tryz.results30,am,ofC,aZ,List.map,swL,rtL]
  repeat' (first
 | ((with_reducible apply (ah (f:=70)));exact rfl;exact rfl;(first|exact c1|exact c2|exact c3|exact c4|exact c5|exact c6|exact c7);exact rfl;exact rfl)
 | ((first|((with_reducible apply aj);iterate 4 exact rfl)|((with_reducible apply aa);exact rfl))<;>intro hg<;>(first|(exact absurd hg (by decide))|((try simp only [qz,ge_iff_le,List.cons.injEq,and_true] at hg);first|(exact absurd trivial hg)|(exfalso;omega)|(have hT:True:=hg;clear hT hg)|skip)))
 | (refine zs ?_)
 | fail
 )
  all_goals exact aB rfl rfl
 rw [cW h7] at c7
 have e:srE s r=0:=go.2 ⟨⟨h1.1,h1.2,h2.1,h2.2,h3.1,h3.2,h4.1,h4.2⟩,h5.1,h5.2,h6.1,h6.2,h7.1,h7.2⟩
 rw [e]
 refine ao Tryz.func30 rfl (by kernel_rfl) rfl ?_
 simp only [Tryz.ntmps30,Tryz.results30,am,ofC,aZ,List.map,swL,rtL]
 repeat' (first
 | ((with_reducible apply (ah (f:=70)));exact rfl;exact rfl;(first|exact c1|exact c2|exact c3|exact c4|exact c5|exact c6|exact c7);exact rfl;exact rfl)
 | ((first|((with_reducible apply aj);iterate 4 exact rfl)|((with_reducible apply aa);exact rfl))<;>intro hg<;>(first|(exact absurd hg (by decide))|((try simp only [qz,ge_iff_le,List.cons.injEq,and_true] at hg);first|(exact absurd trivial hg)|(exfalso;omega)|(have hT:True:=hg;clear hT hg)|skip)))
 | (refine zs ?_)
 | fail
 )
 all_goals exact aB rfl rfl
end Go.Proofs.YtdndfncpglfdeaaGreatDoor.Tp

namespace Go.Proofs.YtdndfncpglfdeaaGreatDoor.Tp
set_option linter.unusedVariables false
set_option linter.unusedSimpArgs false
open Go.RowKit Go.Proofs.YtdndfncpglfdeaaGreatDoor.Ev
open Go.Proofs.YtdndfncpglfdeaaGreatDoor.Cu (I LI ce fP)
open Go.Proofs.YtdndfncpglfdeaaGreatDoor.Ge (an)
variable {gl:List (Nat×List CV)}
def eG (z:an) (n:Int):Bool:=decide (0≤z.1) && decide (z.1 < z.2) && decide (z.2≤n)
theorem isWithin_con (z:an) (n:Int):bm Tryz.prog gl 129 [.agg [I z.1,I z.2],I n] (BO (eG z n)):=by
 refine ao Tryz.func129 rfl (by kernel_rfl) rfl ?_
 simp only [Tryz.ntmps129,Tryz.results129,am,ofC,aZ,List.map]
 by_cases h1:0≤z.1<;>by_cases h2:z.1 < z.2<;>by_cases h3:z.2≤n<;>simp only [eG,h1,h2,h3,decide_true,decide_false,Bool.and_true,Bool.and_false,Bool.true_and,Bool.false_and]
 all_goals
  repeat' (first
 | (((with_reducible apply aj);iterate 4 exact rfl)<;>intro hg<;>(first|(exact absurd hg (by decide))|((try simp only [qz,ge_iff_le,List.cons.injEq,and_true] at hg);first|(exact absurd trivial hg)|(exfalso;omega)|(have hT:True:=hg;clear hT hg)|skip)))
 | (refine zs ?_)
 | fail
 )
  all_goals exact aK rfl (by simp [*])
structure Zn where
 a:Int
 b:Int
 lack:Int
def znL (x:Zn):List CV:=[I x.a,I x.b,I x.lack]
instance:EncL znL 3:=⟨fun _=>rfl,by decide,fun _=>rfl⟩
abbrev LZn (l:List Zn):CV:=.lst 3 (l.flatMap znL)
def worstG (z:an):Int→List Zn→Int
 | m,[]=>m
 | m,x::xs=>worstG z (if x.a < z.2∧z.1 < x.b then max m x.lack else m) xs
def worstS (l:List Zn) (z:an):Int:=worstG z 0 l
theorem worstG_next (z:an) {l:List Zn} {j:Nat} (h:j < l.length) (m:Int):worstG z m (l.drop j)=worstG z (if l[j].a < z.2∧z.1 < l[j].b then max m l[j].lack else m) (l.drop (j+1)):=by
 rw [List.drop_eq_getElem_cons h];rfl
theorem worst_con (l:List Zn) (z:an) (hL:l.length≤100000):bm Tryz.prog gl 131 [LZn l,.agg [I z.1,I z.2]] (I (worstS l z)):=by
 refine ao Tryz.func131 rfl (by kernel_rfl) rfl ?_
 simp only [Tryz.ntmps131,Tryz.results131,am,ofC,aZ,List.map]
 repeat' (first
 | (refine zs ?_)
 | fail
 )
 refine au (G:=Nat×Int) (fun ((j,m):Nat×Int)=>j≤l.length∧worstS l z=worstG z m (l.drop j)) (fun ((j,m):Nat×Int)=>l.length - j) (fun ((j,m):Nat×Int)=>[(3,.ptr 0 0),(5,A m),(8,.c (LZn l)),(9,A l.length),(10,A j)]) (fun ((j,m):Nat×Int)=>[(0,some (.cells 35 [A z.1,A z.2]))]) 1 (0,0) ?_ (by refine ak rfl ?_ ?_<;>repeat (first|exact ai|exact ac|refine ae rfl rfl ?_|refine ab rfl rfl rfl ?_)) rfl ?_
 ·exact ⟨Nat.zero_le _,rfl⟩
 rintro ⟨j,m⟩ hI
 try dsimp only at hI
 try dsimp only
 obtain ⟨hj,hp⟩:=hI
 by_cases hjl:j < l.length
 ·have e:=worstG_next z hjl m
  by_cases h1:l[j].a < z.2∧z.1 < l[j].b
  ·rw [if_pos h1] at e
   repeat' (first
 | ((first|((with_reducible apply aj);iterate 4 exact rfl)|((with_reducible apply aa);exact rfl))<;>intro hg<;>(first|(exact absurd hg (by decide))|((try simp only [qz,ge_iff_le,List.cons.injEq,and_true] at hg);first|(exact absurd trivial hg)|(exfalso;omega)|(have hT:True:=hg;clear hT hg)|skip)))
 | (refine zs ?_)
 | fail
 )
   refine ⟨(j+1,max m l[j].lack),?_,?_,by refine ak rfl ?_ ?_<;>repeat (first|exact ai|exact ac|refine ae rfl rfl ?_|refine ab rfl rfl rfl ?_)⟩
   ·show l.length - (j+1) < l.length - j;omega
   ·exact ⟨by show j+1≤_;omega,by rw [hp];exact e⟩
  ·rw [if_neg h1] at e
   by_cases h2:l[j].a < z.2
   ·have h3:¬ z.1 < l[j].b:=fun h=>h1 ⟨h2,h⟩
    repeat' (first
 | ((first|((with_reducible apply aj);iterate 4 exact rfl)|((with_reducible apply aa);exact rfl))<;>intro hg<;>(first|(exact absurd hg (by decide))|((try simp only [qz,ge_iff_le,List.cons.injEq,and_true] at hg);first|(exact absurd trivial hg)|(exfalso;omega)|(have hT:True:=hg;clear hT hg)|skip)))
 | (refine zs ?_)
 | fail
 )
    refine ⟨(j+1,m),?_,?_,by refine ak rfl ?_ ?_<;>repeat (first|exact ai|exact ac|refine ae rfl rfl ?_|refine ab rfl rfl rfl ?_)⟩
    ·show l.length - (j+1) < l.length - j;omega
    ·exact ⟨by show j+1≤_;omega,by rw [hp];exact e⟩
   ·skip
    repeat' (first
 | ((first|((with_reducible apply aj);iterate 4 exact rfl)|((with_reducible apply aa);exact rfl))<;>intro hg<;>(first|(exact absurd hg (by decide))|((try simp only [qz,ge_iff_le,List.cons.injEq,and_true] at hg);first|(exact absurd trivial hg)|(exfalso;omega)|(have hT:True:=hg;clear hT hg)|skip)))
 | (refine zs ?_)
 | fail
 )
    refine ⟨(j+1,m),?_,?_,by refine ak rfl ?_ ?_<;>repeat (first|exact ai|exact ac|refine ae rfl rfl ?_|refine ab rfl rfl rfl ?_)⟩
    ·show l.length - (j+1) < l.length - j;omega
    ·exact ⟨by show j+1≤_;omega,by rw [hp];exact e⟩
 rw [hp,List.drop_eq_nil_of_le (by omega)]
 repeat' (first
 | (((with_reducible apply aa);exact rfl)<;>intro hg<;>(first|(exact absurd hg (by decide))|((try simp only [qz,ge_iff_le,List.cons.injEq,and_true] at hg);first|(exact absurd trivial hg)|(exfalso;omega)|(have hT:True:=hg;clear hT hg)|skip)))
 | (refine zs ?_)
 | fail
 )
 all_goals exact aB rfl rfl
end Go.Proofs.YtdndfncpglfdeaaGreatDoor.Tp

namespace Go.Proofs.YtdndfncpglfdeaaGreatDoor.Tp
set_option linter.unusedVariables false
set_option linter.unusedSimpArgs false
open Go.RowKit Go.Proofs.YtdndfncpglfdeaaGreatDoor.Ev
open Go.Proofs.YtdndfncpglfdeaaGreatDoor.Cu (I LI ce fP)
open Go.Proofs.YtdndfncpglfdeaaGreatDoor.Ge (an di aO Dfc dfC)
variable {gl:List (Nat×List CV)}
def boxL (x y z:an):List CV:=[I x.1,I x.2,I y.1,I y.2,I z.1,I z.2]
abbrev boxC (x y z:an):CV:=.agg (boxL x y z)
def fd (a b c x y z:an):Bool:=!(aO (di a x) || aO (di b y) || aO (di c z))
def meetB (a b c x y z:an):List CV:=if fd a b c x y z=true then boxL (di a x) (di b y) (di c z) else boxL (0,0) (0,0) (0,0)
theorem dmeet_con (a b c x y z:an):bm Tryz.prog gl 149 [boxC a b c,boxC x y z] (.tup [.agg (meetB a b c x y z),BO (fd a b c x y z)]):=by
 have c1:=Ge.iu (gl:=gl) a.1 a.2 x.1 x.2
 have c2:=Ge.iu (gl:=gl) b.1 b.2 y.1 y.2
 have c3:=Ge.iu (gl:=gl) c.1 c.2 z.1 z.2
 obtain ⟨⟨a1,a2⟩,ea⟩:∃ q,di a x=q:=⟨_,rfl⟩
 obtain ⟨⟨b1,b2⟩,eb⟩:∃ q,di b y=q:=⟨_,rfl⟩
 obtain ⟨⟨d1,d2⟩,ec⟩:∃ q,di c z=q:=⟨_,rfl⟩
 have c1:bm Tryz.prog gl 115 [.agg [I a.1,I a.2],.agg [I x.1,I x.2]] (.agg [I a1,I a2]):=by rw [show di (a.1,a.2) (x.1,x.2)=(a1,a2) from ea] at c1;exact c1
 have c2:bm Tryz.prog gl 115 [.agg [I b.1,I b.2],.agg [I y.1,I y.2]] (.agg [I b1,I b2]):=by rw [show di (b.1,b.2) (y.1,y.2)=(b1,b2) from eb] at c2;exact c2
 have c3:bm Tryz.prog gl 115 [.agg [I c.1,I c.2],.agg [I z.1,I z.2]] (.agg [I d1,I d2]):=by rw [show di (c.1,c.2) (z.1,z.2)=(d1,d2) from ec] at c3;exact c3
 have k1:=Ge.dO (gl:=gl) a1 a2
 have k2:=Ge.dO (gl:=gl) b1 b2
 have k3:=Ge.dO (gl:=gl) d1 d2
 unfold meetB fd
 rw [ea,eb,ec]
 cases h1:aO (a1,a2)<;>cases h2:aO (b1,b2)<;>cases h3:aO (d1,d2)<;>rw [h1] at k1<;>rw [h2] at k2<;>rw [h3] at k3
 all_goals
  refine ao Tryz.func149 rfl (by kernel_rfl) rfl ?_
  simp only [Tryz.ntmps149,Tryz.results149,am,ofC,aZ,List.map,boxL]
  repeat' (first
 | (refine bT 16 ?_ rfl br rfl ?_;(kernel_rfl);(simp only [List.take_succ_cons,List.take_zero,List.drop_succ_cons,List.drop_zero]))
 | ((with_reducible apply cy);exact rfl)
 | ((with_reducible apply (ah (f:=115)));exact rfl;exact rfl;(first|exact c1|exact c2|exact c3);exact rfl;exact rfl)
 | ((with_reducible apply (ah (f:=133)));exact rfl;exact rfl;(first|exact k1|exact k2|exact k3);exact rfl;exact rfl)
 | ((first|((with_reducible apply aj);iterate 4 exact rfl)|((with_reducible apply aa);exact rfl))<;>intro hg<;>(first|(exact absurd hg (by decide))|((try simp only [qz,ge_iff_le,List.cons.injEq,and_true] at hg);first|(exact absurd trivial hg)|(exfalso;omega)|(have hT:True:=hg;clear hT hg)|skip)))
 | (refine zs ?_)
 | fail
 )
  all_goals exact bJ (.cons (.cell_a inferInstance rfl rfl rfl rfl (al ap (al ap (al ap (al ap (al ap (al ap bj))))))) (.cons (.tmp rfl ap) .nil))
theorem touches_con (d:Dfc) (x y z:an):bm Tryz.prog gl 128 [.agg (dfC d),boxC x y z] (BO (fd d.x d.y d.z x y z)):=by
 have c1:=dmeet_con (gl:=gl) d.x d.y d.z x y z
 unfold meetB at c1
 cases h:fd d.x d.y d.z x y z with
 | false =>
  rw [h,if_neg (by decide)] at c1
  refine ao Tryz.func128 rfl (by kernel_rfl) rfl ?_
  simp only [Tryz.ntmps128,Tryz.results128,am,ofC,aZ,List.map,boxL,dfC]
  repeat' (first
 | ((with_reducible apply (ah (f:=149)));exact rfl;exact rfl;exact c1;exact rfl;exact rfl)
 | (refine zs ?_)
 | fail
 )
  all_goals exact aK rfl rfl
 | true =>
  rw [h,if_pos rfl] at c1
  refine ao Tryz.func128 rfl (by kernel_rfl) rfl ?_
  simp only [Tryz.ntmps128,Tryz.results128,am,ofC,aZ,List.map,boxL,dfC]
  repeat' (first
 | ((with_reducible apply (ah (f:=149)));exact rfl;exact rfl;exact c1;exact rfl;exact rfl)
 | (refine zs ?_)
 | fail
 )
  all_goals exact aK rfl rfl
end Go.Proofs.YtdndfncpglfdeaaGreatDoor.Tp
