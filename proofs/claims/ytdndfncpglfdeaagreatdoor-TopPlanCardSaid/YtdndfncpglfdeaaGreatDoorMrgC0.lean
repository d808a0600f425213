/- CutA CutB CutC CutD CutE CutF CutG CutH CutI CutJ: texts laid together. -/
import Derived.Test.YtdndfncpglfdeaaGreatDoorMrgI0
import Derived.Test.YtdndfncpglfdeaaGreatDoorMrgS
set_option maxRecDepth 100000
set_option maxHeartbeats 64000000

namespace Go.Proofs.YtdndfncpglfdeaaGreatDoor.Cu
set_option linter.unusedVariables false
set_option linter.unusedSimpArgs false
open Go.RowKit Go.Proofs.YtdndfncpglfdeaaGreatDoor.Ev
abbrev I (n:Int):CV:=.v (.int .i64 n)
abbrev A (n:Int):AV:=.c (.v (.int .i64 n))
def ce (n:Int):List CV:=[I n]
instance:EncL ce 1:=⟨fun _=>rfl,by decide,fun _=>rfl⟩
abbrev LI (l:List Int):CV:=.lst 1 (l.flatMap ce)
def fP (l:List Int):List CV:=[LI l]
instance:EncL fP 1:=⟨fun _=>rfl,by decide,fun _=>rfl⟩
abbrev LL (l:List (List Int)):CV:=.lst 1 (l.flatMap fP)
structure Line where
 len:Int
 kerf:Int
 pitch:Int
 sizes:List Int
 gain:List (List Int)
 chip:List Int
 dust:List Int
def lineL (l:Line):List CV:=[I l.len,I l.kerf,I l.pitch,LI l.sizes,LL l.gain,LI l.chip,LI l.dust]
def ef (l:Line):CV:=.agg (lineL l)
abbrev lineB (l:Line):AB:=.cells 68 [.c (I l.len),.c (I l.kerf),.c (I l.pitch),.c (LI l.sizes),.c (LL l.gain),.c (LI l.chip),.c (LI l.dust)]
variable {gl:List (Nat×List CV)}
def aA (l:Line) (e:Int):Int:=if e=l.len then -1 else min (e+l.kerf) l.len
theorem behind_con (l:Line) (e:Int) (h:aQ (e+l.kerf)):bm Tryz.prog gl 58 [ef l,I e] (I (aA l e)):=by
 refine ao Tryz.func58 rfl (by kernel_rfl) rfl ?_
 simp only [Tryz.ntmps58,Tryz.results58,am,ofC,aZ,List.map,ef,lineL]
 repeat' (first
 | (((with_reducible apply aa);exact rfl)<;>intro hg<;>(first|(exact absurd hg (by decide))|((try simp only [qz,ge_iff_le,List.cons.injEq,and_true] at hg);first|(exact absurd trivial hg)|(exfalso;omega)|(have hT:True:=hg;clear hT hg)|skip)))
 | (refine zs ?_)
 | fail
 )
 ·exact aB rfl (by unfold aA;rw [if_pos hg])
 ·exact aB rfl (by unfold aA;rw [if_neg hg])
theorem places_con (l:Line) (s:Int) (h:0≤l.len∧l.len≤2000∧1≤s∧s≤2000):bm Tryz.prog gl 109 [ef l,I s] (I (max 0 (l.len - s+1))):=by
 refine ao Tryz.func109 rfl (by kernel_rfl) rfl ?_
 simp only [Tryz.ntmps109,Tryz.results109,am,ofC,aZ,List.map,ef,lineL]
 repeat' (first
 | (refine zs ?_)
 | fail
 )
 exact aB rfl rfl
def cV (l:Line):Prop:=l.len < 0∨2000 < l.len∨l.kerf < 0∨20 < l.kerf∨l.pitch < 1∨2000 < l.pitch
instance (l:Line):Decidable (cV l):=by unfold cV;exact inferInstance
def iK (s:Int):Bool:=decide (1≤s) && decide (s≤2000)
def dB (l:Line):Int:=if cV l then 9 else if 32 < l.sizes.length then 4 else if l.sizes.all iK then 0 else 9
theorem fe {α:Type} {p:α→Bool} {l:List α} (h:∀ i (h:i < l.length),p l[i]=true):l.all p=true:=by
 rw [List.all_eq_true];intro x hx;obtain ⟨i,hi,rfl⟩:=List.mem_iff_getElem.1 hx;exact h i hi
theorem gJ {α:Type} {p:α→Bool} {l:List α} {i:Nat} (hi:i < l.length) (h:p l[i]=false):l.all p=false:=by
 rw [List.all_eq_false];exact ⟨l[i],List.getElem_mem _,by simp [h]⟩
theorem d9 {α:Type} {p:α→Bool} {l:List α} {j:Nat} (hj:j < l.length) (h:∀ i (h:i < l.length),i < j→p l[i]=true) (hp:p l[j]=true):∀ i (h:i < l.length),i < j+1→p l[i]=true:=by
 intro i hi hij
 by_cases he:i=j
 ·subst he;exact hp
 ·exact h i hi (by omega)
theorem meas1 {l:Line} (h:cV l):9=dB l:=by unfold dB;rw [if_pos h]
theorem meas2 {l:Line} (h:¬ cV l) (h2:32 < l.sizes.length):4=dB l:=by unfold dB;rw [if_neg h,if_pos h2]
theorem meas3 {l:Line} (h:¬ cV l) (h2:¬ 32 < l.sizes.length) {j:Nat} (hj:j < l.sizes.length) (hs:iK l.sizes[j]=false):9=dB l:=by unfold dB;rw [if_neg h,if_neg h2,gJ hj hs];rfl
theorem meas4 {l:Line} (h:¬ cV l) (h2:¬ 32 < l.sizes.length) (hs:∀ i (h:i < l.sizes.length),iK l.sizes[i]=true):0=dB l:=by unfold dB;rw [if_neg h,if_neg h2,fe hs];rfl
theorem meas0 {l:Line} (h:dB l=0):¬ cV l∧l.sizes.length≤32∧∀ i (h:i < l.sizes.length),1≤l.sizes[i]∧l.sizes[i]≤2000:=by
 unfold dB at h
 split at h
 ·simp at h
 split at h
 ·simp at h
 split at h
 ·rename_i h1 h2 h3
  refine ⟨h1,by omega,fun i hi=>?_⟩
  have:=List.all_eq_true.1 h3 _ (List.getElem_mem hi)
  unfold iK at this
  simpa using this
 ·simp at h
theorem meas_con (l:Line):bm Tryz.prog gl 108 [ef l] (I (dB l)):=by
 refine ao Tryz.func108 rfl (by kernel_rfl) rfl ?_
 simp only [Tryz.ntmps108,Tryz.results108,am,ofC,aZ,List.map,ef,lineL]
 repeat' (first
 | ((first|((with_reducible apply aj);iterate 4 exact rfl)|((with_reducible apply aa);exact rfl))<;>intro hg<;>(first|(exact absurd hg (by decide))|((try simp only [qz,ge_iff_le,List.cons.injEq,and_true] at hg);first|(exact absurd trivial hg)|(exfalso;omega)|(have hT:True:=hg;clear hT hg)|skip)))
 | (refine zs ?_)
 | fail
 )
 all_goals first|exact aB rfl (meas1 (by unfold cV;omega))|exact aB rfl (meas2 (by unfold cV;omega) (by omega))|skip
 have hh:¬ cV l:=by unfold cV;omega
 have hl:¬ 32 < l.sizes.length:=by omega
 refine au (G:=Nat) (fun (j:Nat)=>j≤l.sizes.length∧∀ i (h:i < l.sizes.length),i < j→iK l.sizes[i]=true) (fun (j:Nat)=>l.sizes.length - j) (fun (j:Nat)=>[(38,.c (LI l.sizes)),(39,A l.sizes.length),(40,A j)]) (fun (j:Nat)=>[]) 1 0 ?_ (by refine ak rfl ?_ ?_<;>repeat (first|exact ai|exact ac|refine ae rfl rfl ?_|refine ab rfl rfl rfl ?_)) rfl ?_
 ·exact ⟨Nat.zero_le _,fun _ _ h=>absurd h (Nat.not_lt_zero _)⟩
 rintro j hI
 try dsimp only at hI
 try dsimp only
 obtain ⟨hj,hall⟩:=hI
 repeat' (first
 | ((first|((with_reducible apply aj);iterate 4 exact rfl)|((with_reducible apply aa);exact rfl))<;>intro hg<;>(first|(exact absurd hg (by decide))|((try simp only [qz,ge_iff_le,List.cons.injEq,and_true] at hg);first|(exact absurd trivial hg)|(exfalso;omega)|(have hT:True:=hg;clear hT hg)|skip)))
 | (refine zs ?_)
 | fail
 )
 ·exact aB rfl (meas3 hh hl (j:=j) (by omega) (by unfold iK;simp;omega))
 ·skip
  refine ⟨j+1,?_,?_,by refine ak rfl ?_ ?_<;>repeat (first|exact ai|exact ac|refine ae rfl rfl ?_|refine ab rfl rfl rfl ?_)⟩
  ·omega
  ·exact ⟨by omega,d9 (by omega) hall (by unfold iK;simp;omega)⟩
 ·exact aB rfl (meas3 hh hl (j:=j) (by omega) (by unfold iK;simp;omega))
 ·exact aB rfl (meas4 hh hl (fun i hi=>hall i hi (by omega)))
def smallN (n:Int):Bool:=decide (-1125899906842624≤n) && decide (n≤1125899906842624)
def du (l:List Int):Bool:=l.all smallN
theorem small_con (ls:List (List Int)) (hn:ls.length≤1000000) (hr:∀ i (h:i < ls.length),ls[i].length≤1000000):bm Tryz.prog gl 110 [LL ls] (.v (.bool (ls.all du))):=by
 refine ao Tryz.func110 rfl (by kernel_rfl) rfl ?_
 simp only [Tryz.ntmps110,Tryz.results110,am,ofC,aZ,List.map]
 repeat' (first
 | (refine zs ?_)
 | fail
 )
 refine au (G:=Nat) (fun (j:Nat)=>j≤ls.length∧∀ i (h:i < ls.length),i < j→du ls[i]=true) (fun (j:Nat)=>ls.length - j) (fun (j:Nat)=>[(7,.c (LL ls)),(8,A ls.length),(9,A j)]) (fun (j:Nat)=>[]) 0 0 ?_ (by refine ak rfl ?_ ?_<;>repeat (first|exact ai|exact ac|refine ae rfl rfl ?_|refine ab rfl rfl rfl ?_)) rfl ?_
 ·exact ⟨Nat.zero_le _,fun _ _ h=>absurd h (Nat.not_lt_zero _)⟩
 rintro j hI
 try dsimp only at hI
 try dsimp only
 obtain ⟨hj,hall⟩:=hI
 repeat' (first
 | (((with_reducible apply aa);exact rfl)<;>intro hg<;>(first|(exact absurd hg (by decide))|((try simp only [qz,ge_iff_le,List.cons.injEq,and_true] at hg);first|(exact absurd trivial hg)|(exfalso;omega)|(have hT:True:=hg;clear hT hg)|skip)))
 | (refine zs ?_)
 | fail
 )
 ·have hj1:j < ls.length:=by omega
  have hlr:=hr j hj1
  refine au (G:=Nat) (fun (i:Nat)=>i≤ls[j].length∧∀ q (h:q < ls[j].length),q < i→smallN ls[j][q]=true) (fun (i:Nat)=>ls[j].length - i) (fun (i:Nat)=>[(7,.c (LL ls)),(8,A ls.length),(9,A j),(13,.c (LI ls[j])),(14,A ls[j].length),(15,A i)]) (fun (i:Nat)=>[]) 0 0 ?_ (by refine ak rfl ?_ ?_<;>repeat (first|exact ai|exact ac|refine ae rfl rfl ?_|refine ab rfl rfl rfl ?_)) rfl ?_
  ·exact ⟨Nat.zero_le _,fun _ _ h=>absurd h (Nat.not_lt_zero _)⟩
  rintro i hI
  try dsimp only at hI
  try dsimp only
  obtain ⟨hi,hin⟩:=hI
  repeat' (first
 | ((first|((with_reducible apply aj);iterate 4 exact rfl)|((with_reducible apply aa);exact rfl))<;>intro hg<;>(first|(exact absurd hg (by decide))|((try simp only [qz,ge_iff_le,List.cons.injEq,and_true] at hg);first|(exact absurd trivial hg)|(exfalso;omega)|(have hT:True:=hg;clear hT hg)|skip)))
 | (refine zs ?_)
 | fail
 )
  ·exact aK rfl (gJ hj1 (gJ (i:=i) (by omega) (by unfold smallN;simp;omega))).symm
  ·skip
   refine ⟨i+1,?_,?_,by refine ak rfl ?_ ?_<;>repeat (first|exact ai|exact ac|refine ae rfl rfl ?_|refine ab rfl rfl rfl ?_)⟩
   ·omega
   ·exact ⟨by omega,d9 (by omega) hin (by unfold smallN;simp;omega)⟩
  ·exact aK rfl (gJ hj1 (gJ (i:=i) (by omega) (by unfold smallN;simp;omega))).symm
  ·skip
   refine ⟨j+1,?_,?_,by refine ak rfl ?_ ?_<;>repeat (first|exact ai|exact ac|refine ae rfl rfl ?_|refine ab rfl rfl rfl ?_)⟩
   ·omega
   ·exact ⟨by omega,d9 hj1 hall (fe (fun q hq=>hin q hq (by omega)))⟩
 ·exact aK rfl (fe (fun i hi=>hall i hi (by omega))).symm
def rowOk (l:Line) (i:Nat):Prop:=∀ (h:i < l.gain.length) (h2:i < l.sizes.length),(l.gain[i].length:Int)=max 0 (l.len - l.sizes[i]+1)
def fl (l:Line):Prop:=l.gain.length=l.sizes.length∧(l.chip.length:Int)=l.len∧(l.dust.length:Int)=l.len∧∀ i,i < l.sizes.length→rowOk l i
open Classical in
noncomputable def chk (l:Line):Int:=if dB l≠0 then dB l else if fl l then (if l.gain.all du && du l.chip && du l.dust then 0 else 9) else 19
theorem chk_meas {l:Line} (h:¬ dB l=0):dB l=chk l:=by unfold chk;rw [if_pos h]
theorem chk_shape {l:Line} (h:dB l=0) (h2:¬ fl l):19=chk l:=by unfold chk;rw [if_neg (by simp [h]),if_neg h2]
theorem chk_small {l:Line} (h:dB l=0) (h2:fl l) (b:Bool) (hb:(l.gain.all du && du l.chip && du l.dust)=b):(if b then 0 else 9)=chk l:=by unfold chk;rw [if_neg (show ¬ dB l≠0 from fun hh=>hh h),if_pos h2,hb]
theorem chk9a {l:Line} (h:dB l=0) (hs:fl l) (b:l.gain.all du=false):9=chk l:=by rw [← chk_small h hs _ rfl,b];rfl
theorem chk9b {l:Line} (h:dB l=0) (hs:fl l) (b:[l.chip,l.dust].all du=false):9=chk l:=by
 rw [← chk_small h hs _ rfl]
 simp only [List.all_cons,List.all_nil,Bool.and_true] at b
 rw [Bool.and_assoc,b,Bool.and_false];rfl
theorem chk0 {l:Line} (h:dB l=0) (hs:fl l) (b1:l.gain.all du=true) (b2:[l.chip,l.dust].all du=true):0=chk l:=by
 rw [← chk_small h hs _ rfl]
 simp only [List.all_cons,List.all_nil,Bool.and_true] at b2
 rw [Bool.and_assoc,b1,b2];rfl
theorem shape_len {l:Line} (h:dB l=0) (hs:fl l):0≤l.len∧l.len≤2000∧l.gain.length≤32∧l.chip.length≤2000∧l.dust.length≤2000∧∀ i (h:i < l.gain.length),l.gain[i].length≤2000:=by
 obtain ⟨h1,h2,h3⟩:=meas0 h
 unfold cV at h1
 obtain ⟨s1,s2,s3,s4⟩:=hs
 refine ⟨by omega,by omega,by omega,by omega,by omega,fun i hi=>?_⟩
 have:=s4 i (by omega) hi (by omega)
 have:=(h3 i (by omega)).1
 omega
theorem iq (l:Line):bm Tryz.prog gl 56 [ef l] (I (chk l)):=by
 refine ao Tryz.func56 rfl (by kernel_rfl) rfl ?_
 simp only [Tryz.ntmps56,Tryz.results56,am,ofC,aZ,List.map,ef,lineL]
 repeat' (first
 | ((with_reducible apply ah);exact rfl;exact rfl;exact meas_con l;exact rfl;exact rfl)
 | ((first|((with_reducible apply aj);iterate 4 exact rfl)|((with_reducible apply aa);exact rfl))<;>intro hg<;>(first|(exact absurd hg (by decide))|((try simp only [qz,ge_iff_le,List.cons.injEq,and_true] at hg);first|(exact absurd trivial hg)|(exfalso;omega)|(have hT:True:=hg;clear hT hg)|skip)))
 | (refine zs ?_)
 | fail
 )
 ·exact aB rfl (chk_meas hg)
 all_goals have hm:dB l=0:=by assumption
 all_goals obtain ⟨hm1,hm2,hm3⟩:=meas0 hm
 all_goals (unfold cV at hm1)
 all_goals first|exact aB rfl (chk_shape hm (fun hs=>by have h1:=hs.1;have h2:=hs.2.1;have h3:=hs.2.2.1;omega))|skip
 have hlen:l.gain.length=l.sizes.length:=by omega
 refine au (G:=Nat) (fun (j:Nat)=>j≤l.gain.length∧∀ i,i < j→rowOk l i) (fun (j:Nat)=>l.gain.length - j) (fun (j:Nat)=>[(1,.ptr 0 0),(35,.c (LL l.gain)),(36,A l.gain.length),(37,A j)]) (fun (j:Nat)=>[(0,some (lineB l))]) 1 0 ?_ (by refine ak rfl ?_ ?_<;>repeat (first|exact ai|exact ac|refine ae rfl rfl ?_|refine ab rfl rfl rfl ?_)) rfl ?_
 ·exact ⟨Nat.zero_le _,fun _ h=>absurd h (Nat.not_lt_zero _)⟩
 rintro j hI
 try dsimp only at hI
 try dsimp only
 obtain ⟨hj,hall⟩:=hI
 have hrows:j=l.gain.length→fl l:=fun hjl=>⟨hlen,by omega,by omega,fun i hi=>hall i (by omega)⟩
 by_cases hjl:j < l.gain.length
 ·skip
  repeat' (first
 | ((with_reducible apply ah);exact rfl;exact rfl;exact places_con l _ ⟨by omega,by omega,(hm3 j (by omega)).1,(hm3 j (by omega)).2⟩;exact rfl;exact rfl)
 | (((with_reducible apply aa);exact rfl)<;>intro hg<;>(first|(exact absurd hg (by decide))|((try simp only [qz,ge_iff_le,List.cons.injEq,and_true] at hg);first|(exact absurd trivial hg)|(exfalso;omega)|(have hT:True:=hg;clear hT hg)|skip)))
 | (refine zs ?_)
 | fail
 )
  ·exact aB rfl (chk_shape hm (fun hs=>hg (hs.2.2.2 j (by omega) hjl (by omega))))
  ·skip
   refine ⟨j+1,?_,?_,by refine ak rfl ?_ ?_<;>repeat (first|exact ai|exact ac|refine ae rfl rfl ?_|refine ab rfl rfl rfl ?_)⟩
   ·omega
   ·refine ⟨by omega,fun i hi=>?_⟩
    by_cases he:i=j
    ·subst he;exact fun _ _=>hg
    ·exact hall i (by omega)
 ·have hs:=hrows (by omega)
  obtain ⟨q1,q2,q3,q4,q5,q6⟩:=shape_len hm hs
  have hr1:=small_con (gl:=gl) l.gain (by omega) (fun i hi=>by have:=q6 i hi;omega)
  have hr2:=small_con (gl:=gl) [l.chip,l.dust] (by simp) (fun i hi=>by
   simp only [List.length_cons,List.length_nil] at hi
   match i,hi with
   | 0,_=>show l.chip.length≤_;omega
   | 1,_=>show l.dust.length≤_;omega)
  repeat' (first
 | ((with_reducible apply ah);exact rfl;exact rfl;exact hr1;exact rfl;exact rfl)
 | ((with_reducible apply r_callv);exact hr2;exact rfl;exact al (bx rfl rfl) bj;exact rfl;exact rfl)
 | ((first|((with_reducible apply aj);iterate 4 exact rfl)|((with_reducible apply aa);exact rfl))<;>intro hg<;>(first|(exact absurd hg (by decide))|((try simp only [qz,ge_iff_le,List.cons.injEq,and_true] at hg);first|(exact absurd trivial hg)|(exfalso;omega)|(have hT:True:=hg;clear hT hg)|skip)))
 | (refine zs ?_)
 | fail
 )
  all_goals first|exact aB rfl (chk9a hm hs (by assumption))|exact aB rfl (chk9b hm hs (by assumption))|exact aB rfl (chk0 hm hs (by assumption) (by assumption))
end Go.Proofs.YtdndfncpglfdeaaGreatDoor.Cu

namespace Go.Proofs.YtdndfncpglfdeaaGreatDoor.Cu
set_option linter.unusedVariables false
set_option linter.unusedSimpArgs false
open Go.RowKit Go.Proofs.YtdndfncpglfdeaaGreatDoor.Ev
variable {gl:List (Nat×List CV)}
abbrev an:=Int×Int
abbrev bI:=Int×Int
def gw (s:an):List CV:=[I s.1,I s.2]
instance:EncL gw 2:=⟨fun _=>rfl,by decide,fun _=>rfl⟩
abbrev LS (l:List an):CV:=.lst 2 (l.flatMap gw)
def aR (l:Line) (s:Int):Int:=l.sizes.getD s.toNat 0
def gOf (l:Line) (s p:Int):Int:=(l.gain.getD s.toNat []).getD p.toNat 0
def perm (l:Line) (edge:Int) (x:bI):Int :=
 if x.1 < 0∨(l.sizes.length:Int)≤x.1 then 9
 else if x.2 < 0∨l.len - aR l x.1 < x.2 then 20
 else if edge < 0∨(x.2≠edge∧(x.2 - l.kerf - edge < l.pitch∨(x.2 - l.kerf - edge).tmod l.pitch≠0)) then 11
 else if gOf l x.1 x.2 < 0 then 14 else 0
structure Valid (l:Line):Prop where
 len:0≤l.len∧l.len≤2000
 kerf:0≤l.kerf∧l.kerf≤20
 pitch:1≤l.pitch∧l.pitch≤2000
 sizes:l.sizes.length≤32
 size:∀ i (h:i < l.sizes.length),1≤l.sizes[i]∧l.sizes[i]≤2000
 gain:l.gain.length=l.sizes.length
 chip:(l.chip.length:Int)=l.len
 dust:(l.dust.length:Int)=l.len
 row:∀ i (h:i < l.gain.length) (h2:i < l.sizes.length),(l.gain[i].length:Int)=max 0 (l.len - l.sizes[i]+1)
 gains:∀ i (h:i < l.gain.length) j (h2:j < l.gain[i].length),-1125899906842624≤l.gain[i][j]∧l.gain[i][j]≤1125899906842624
 chips:∀ i (h:i < l.chip.length),-1125899906842624≤l.chip[i]∧l.chip[i]≤1125899906842624
 dusts:∀ i (h:i < l.dust.length),-1125899906842624≤l.dust[i]∧l.dust[i]≤1125899906842624
theorem small_get {l:List Int} (h:du l=true) (i:Nat) (hi:i < l.length):-1125899906842624≤l[i]∧l[i]≤1125899906842624:=by
 have:=List.all_eq_true.1 h _ (List.getElem_mem hi)
 unfold smallN at this;simpa using this
theorem valid_of {l:Line} (h:chk l=0):Valid l:=by
 have hm:dB l=0:=Classical.byContradiction fun hc=>by rw [← chk_meas hc] at h;exact hc h
 have hs:fl l:=Classical.byContradiction fun hc=>by rw [← chk_shape hm hc] at h;cases h
 have hb:=chk_small hm hs _ rfl
 rw [h] at hb
 have hb':(l.gain.all du && du l.chip && du l.dust)=true:=by
  cases hq:(l.gain.all du && du l.chip && du l.dust) with
  | true=>rfl
  | false=>rw [hq] at hb;simp at hb
 simp only [Bool.and_eq_true] at hb'
 obtain ⟨⟨b1,b2⟩,b3⟩:=hb'
 obtain ⟨h1,h2,h3⟩:=meas0 hm
 unfold cV at h1
 obtain ⟨s1,s2,s3,s4⟩:=hs
 exact ⟨by omega,by omega,by omega,h2,h3,s1,s2,s3,fun i hi hi2=>s4 i hi2 hi hi2,fun i hi j hj=>small_get (List.all_eq_true.1 b1 _ (List.getElem_mem hi)) j hj,small_get b2,small_get b3⟩
theorem szOf_eq {l:Line} {s:Int} (h0:0≤s) (h:s < l.sizes.length):∃ k:Nat,s=(k:Int)∧∃ hk:k < l.sizes.length,aR l s=l.sizes[k]:=by
 refine ⟨s.toNat,by omega,by omega,?_⟩
 unfold aR
 rw [List.getD_eq_getElem?_getD,List.getElem?_eq_getElem (by omega)];rfl
theorem gOf_eq {l:Line} (v:Valid l) {k:Nat} (hk:k < l.sizes.length) {p:Int} (h0:0≤p) (h1:p≤l.len - l.sizes[k]):∃ j:Nat,p=(j:Int)∧∃ (h2:k < l.gain.length) (h3:j < l.gain[k].length),gOf l k p=l.gain[k][j]:=by
 have hg:=v.gain
 have hr:=v.row k (by omega) hk
 refine ⟨p.toNat,by omega,by omega,by omega,?_⟩
 unfold gOf
 rw [Int.toNat_natCast,List.getD_eq_getElem?_getD,List.getD_eq_getElem?_getD,List.getElem?_eq_getElem (by omega:k < l.gain.length)]
 simp only [Option.getD_some]
 rw [List.getElem?_eq_getElem (by omega)];rfl
def addS (l:List an) (a b:Int):List an:=if b≤a then l else l++[(a,b)]
section
variable {ops:Array Oper} {Q:Exit→St→Prop} {rest:List Oper} {d:Nat} {ty:TypeId} {pos:String} {af:Array Edge} {n:Nat} {env:List (Nat×AV)} {heap:List (Nat×Option AB)} {nx:Nat} {tys:Array TypeId}
end
end Go.Proofs.YtdndfncpglfdeaaGreatDoor.Cu

namespace Go.Proofs.YtdndfncpglfdeaaGreatDoor.Cu
set_option linter.unusedVariables false
set_option linter.unusedSimpArgs false
open Go.RowKit Go.Proofs.YtdndfncpglfdeaaGreatDoor.Ev
variable {gl:List (Nat×List CV)}
def pcC (x:bI):List CV:=[I x.1,I x.2]
instance:EncL pcC 2:=⟨fun _=>rfl,by decide,fun _=>rfl⟩
abbrev LP (l:List bI):CV:=.lst 2 (l.flatMap pcC)
abbrev CutR:=Int×List an×List an
def cutsGo (l:Line):List bI→Int→List an→List an→CutR
 | [],e,d,c=>(0,d,if 0≤e then addS c e l.len else c)
 | x::xs,e,d,c =>
  if perm l e x≠0 then (perm l e x,[],[])
  else cutsGo l xs (aA l (x.2+aR l x.1)) (addS (if e < x.2 then addS d (x.2 - l.kerf) x.2 else d) (x.2+aR l x.1) (aA l (x.2+aR l x.1))) (if e < x.2 then addS c e (x.2 - l.kerf) else c)
noncomputable def cutsS (l:Line) (p:List bI):CutR:=if chk l≠0 then (chk l,[],[]) else cutsGo l p 0 [] []
theorem gI {l:Line} {e s p:Int} (h:perm l e (s,p)=0):0≤s∧s < l.sizes.length∧0≤p∧p≤l.len - aR l s∧0≤e∧(p=e∨(l.pitch≤p - l.kerf - e∧(p - l.kerf - e).tmod l.pitch=0))∧0≤gOf l s p:=by
 unfold perm at h
 dsimp only at h
 split at h
 ·simp at h
 split at h
 ·simp at h
 split at h
 ·simp at h
 split at h
 ·simp at h
 rename_i h1 h2 h3 h4
 generalize (p - l.kerf - e).tmod l.pitch=tm at *
 refine ⟨by omega,by omega,by omega,by omega,by omega,by omega,by omega⟩
theorem bk {α:Type} (l:List α) (j:Nat) (h:j < l.length):l.drop j=l[j]::l.drop (j+1):=List.drop_eq_getElem_cons h
theorem szOf_nat {l:Line} {k:Nat} (hk:k < l.sizes.length):aR l (k:Int)=l.sizes[k]:=by
 unfold aR;rw [Int.toNat_natCast,List.getD_eq_getElem?_getD,List.getElem?_eq_getElem hk];rfl
end Go.Proofs.YtdndfncpglfdeaaGreatDoor.Cu

namespace Go.Proofs.YtdndfncpglfdeaaGreatDoor.Cu
set_option linter.unusedVariables false
set_option linter.unusedSimpArgs false
open Go.RowKit Go.Proofs.YtdndfncpglfdeaaGreatDoor.Ev
variable {gl:List (Nat×List CV)}
def pre (l:List Int) (k:Nat):Int:=(l.take k).sum
theorem pre_succ (l:List Int) (k:Nat) (h:k < l.length):pre l (k+1)=pre l k+l[k]:=by
 unfold pre;rw [List.take_succ_eq_append_getElem h,List.sum_append];simp
def Bd (l:List Int):Prop:=∀ i (h:i < l.length),-1125899906842624≤l[i]∧l[i]≤1125899906842624
theorem pre_bd {l:List Int} (h:Bd l) (a:Nat):∀ n,a+n≤l.length→-1125899906842624 * (n:Int)≤pre l (a+n) - pre l a∧pre l (a+n) - pre l a≤1125899906842624 * (n:Int)
 | 0,_=>by simp
 | n+1,hn=>by
  have ih:=pre_bd h a n (by omega)
  have h1:=h (a+n) (by omega)
  rw [show a+(n+1)=(a+n)+1 by omega,pre_succ l (a+n) (by omega)]
  omega
theorem pre_bd' {l:List Int} (h:Bd l) (a b:Nat) (hab:a≤b) (hb:b≤l.length):-1125899906842624 * ((b:Int) - a)≤pre l b - pre l a∧pre l b - pre l a≤1125899906842624 * ((b:Int) - a):=by
 have:=pre_bd h a (b - a) (by omega)
 rw [show a+(b - a)=b by omega] at this
 have e:((b - a:Nat):Int)=(b:Int) - a:=by omega
 rw [e] at this;exact this
def spV (l:List Int) (s:an):Int:=pre l s.2.toNat - pre l s.1.toNat
def sumSp (l:List Int) (ss:List an):Int:=(ss.map (spV l)).sum
def tot (ss:List an):Int:=(ss.map fun s=>s.2 - s.1).sum
structure SpsOk (n:Nat) (ss:List an):Prop where
 sp:∀ i (h:i < ss.length),0≤ss[i].1∧ss[i].1≤ss[i].2∧ss[i].2≤n
 tot:tot ss≤4000
end Go.Proofs.YtdndfncpglfdeaaGreatDoor.Cu

namespace Go.Proofs.YtdndfncpglfdeaaGreatDoor.Cu
set_option linter.unusedVariables false
set_option linter.unusedSimpArgs false
open Go.RowKit Go.Proofs.YtdndfncpglfdeaaGreatDoor.Ev
variable {gl:List (Nat×List CV)}
def AllSp (n:Int) (l:List an):Prop:=∀ s∈l,0≤s.1∧s.1 < s.2∧s.2≤n
structure GoInv (l:Line) (e:Int) (d c:List an) (n:Int):Prop where
 hd:AllSp l.len d
 hc:AllSp l.len c
 he:-1≤e∧e≤l.len
 ht:tot d+tot c+n≤if e < 0 then l.len else e
def gsum (l:Line) (p:List bI):Int:=(p.map fun x=>gOf l x.1 x.2).sum
noncomputable def valS (l:Line) (p:List bI):Int×Int :=
 if (cutsS l p).1≠0 then (0,(cutsS l p).1) else (sumSp l.dust (cutsS l p).2.1+sumSp l.chip (cutsS l p).2.2+gsum l p,0)
end Go.Proofs.YtdndfncpglfdeaaGreatDoor.Cu

namespace Go.Proofs.YtdndfncpglfdeaaGreatDoor.Cu
set_option linter.unusedVariables false
set_option linter.unusedSimpArgs false
open Go.RowKit Go.Proofs.YtdndfncpglfdeaaGreatDoor.Ev
variable {gl:List (Nat×List CV)}
theorem gL {l:Line} {p:List bI} {D C:List an} (h:cutsS l p=(0,D,C)):valS l p=(sumSp l.dust D+sumSp l.chip C+gsum l p,0):=by
 unfold valS;rw [h];rw [if_neg (by simp)]
structure Good (l:Line) (p:List bI) (D C:List an):Prop where
 v:Valid l
 d:SpsOk l.dust.length D
 c:SpsOk l.chip.length C
 bd:Bd l.dust
 bc:Bd l.chip
 ld:l.dust.length≤2000
 lc:l.chip.length≤2000
 nd:D.length≤2000
 nc:C.length≤2000
 sd:-1125899906842624 * 2000≤sumSp l.dust D∧sumSp l.dust D≤1125899906842624 * 2000
 sc:-1125899906842624 * 2000≤sumSp l.chip C∧sumSp l.chip C≤1125899906842624 * 2000
 np:p.length≤2000
 pm:∀ x∈p,∃ e,perm l e x=0
end Go.Proofs.YtdndfncpglfdeaaGreatDoor.Cu

namespace Go.Proofs.YtdndfncpglfdeaaGreatDoor.Cu
set_option linter.unusedVariables false
set_option linter.unusedSimpArgs false
open Go.RowKit Go.Proofs.YtdndfncpglfdeaaGreatDoor.Ev
variable {gl:List (Nat×List CV)}
abbrev T:CV:=.v (.bool true)
end Go.Proofs.YtdndfncpglfdeaaGreatDoor.Cu

namespace Go.Proofs.YtdndfncpglfdeaaGreatDoor.Cu
set_option linter.unusedVariables false
set_option linter.unusedSimpArgs false
open Go.RowKit Go.Proofs.YtdndfncpglfdeaaGreatDoor.Ev
variable {gl:List (Nat×List CV)}
def bi (l:List Int):List Int:=(List.range (l.length+1)).map (pre l)
@[simp] theorem sumsS_len (l:List Int):(bi l).length=l.length+1:=by simp [bi]
theorem sumsS_get (l:List Int) (k:Nat) (h:k < (bi l).length):(bi l)[k]=pre l k:=by simp [bi]
theorem sumsS_of {l s:List Int} (hn:s.length=l.length+1) (h:∀ i (hi:i < s.length),s[i]=pre l i):s=bi l:=by
 refine List.ext_getElem (by simp [hn]) (fun i h1 h2=>?_)
 rw [h i h1,sumsS_get]
theorem pre_le {l:List Int} (hb:Bd l) (hn:l.length≤2000) {k:Nat} (hk:k≤l.length):-1125899906842624 * 2000≤pre l k∧pre l k≤1125899906842624 * 2000:=by
 have:=pre_bd hb 0 k (by omega)
 rw [Nat.zero_add,show pre l 0=0 from rfl] at this
 omega
theorem sums_con (l:List Int) (hb:Bd l) (hn:l.length≤2000):bm Tryz.prog gl 111 [LI l] (LI (bi l)):=by
 refine ao Tryz.func111 rfl (by kernel_rfl) rfl ?_
 simp only [Tryz.ntmps111,Tryz.results111,am,ofC,aZ,List.map]
 repeat' (first
 | ((with_reducible apply r_make (enc:=ce) (0:Int) (l.length+1));exact inferInstance;(iterate 5 exact rfl);omega;omega;exact rfl)
 | (refine zs ?_)
 | fail
 )
 refine au (G:=Nat×List Int) (fun ((j,s):Nat×List Int)=>j≤l.length∧s.length=l.length+1∧∀ i (h:i < s.length),i≤j→s[i]=pre l i) (fun ((j,s):Nat×List Int)=>l.length - j) (fun ((j,s):Nat×List Int)=>[(3,.vec 0 (l.length+1)),(10,.c (LI l)),(11,A l.length),(12,A j)]) (fun ((j,s):Nat×List Int)=>[(0,some (.vec 3 1 (s.flatMap ce)))]) 1 (0,List.replicate (l.length+1) 0) ?_ (by refine ak rfl ?_ ?_<;>repeat (first|exact ai|exact ac|refine ae rfl rfl ?_|refine ab rfl rfl rfl ?_)) rfl ?_
 ·refine ⟨Nat.zero_le _,by simp,fun i h hi=>?_⟩
  obtain rfl:i=0:=Nat.le_zero.1 hi
  simp [pre]
 rintro ⟨j,s⟩ hI
 try dsimp only at hI
 try dsimp only
 obtain ⟨hj,hs,hall⟩:=hI
 by_cases hjl:j < l.length
 ·have h1:=hall j (by omega) (Nat.le_refl _)
  have h2:=pre_le hb hn hj
  have h3:=hb j hjl
  have h4:=pre_succ l j hjl
  repeat' (first
 | ((with_reducible apply fS (enc:=ce) (s[j]+l[j]));exact rfl;exact rfl;exact inferInstance;(first|exact rfl|assumption);(first|assumption|omega);iterate 4 exact rfl)
 | (((with_reducible apply aa);exact rfl)<;>intro hg<;>(first|(exact absurd hg (by decide))|((try simp only [qz,ge_iff_le,List.cons.injEq,and_true] at hg);first|(exact absurd trivial hg)|(exfalso;omega)|(have hT:True:=hg;clear hT hg)|skip)))
 | (refine zs ?_)
 | fail
 )
  refine ⟨(j+1,s.set (j+1) (s[j]+l[j])),?_,?_,by refine ak rfl ?_ ?_<;>repeat (first|exact ai|exact ac|refine ae rfl rfl ?_|refine ab rfl rfl rfl ?_)⟩
  ·show _ - (j+1) < _ - j;omega
  ·refine ⟨by show j+1≤_;omega,by simp [hs],fun i h hi=>?_⟩
   by_cases e:i=j+1
   ·subst e;rw [List.getElem_set_self,h1,h4]
   ·rw [List.getElem_set_ne (by omega)]
    exact hall i (by simpa using h) (by have:i≤j+1:=hi;omega)
 ·skip
  repeat' (first
 | (((with_reducible apply aa);exact rfl)<;>intro hg<;>(first|(exact absurd hg (by decide))|((try simp only [qz,ge_iff_le,List.cons.injEq,and_true] at hg);first|(exact absurd trivial hg)|(exfalso;omega)|(have hT:True:=hg;clear hT hg)|skip)))
 | (refine zs ?_)
 | fail
 )
  have:s=bi l:=sumsS_of hs (fun i hi=>hall i hi (by omega))
  rw [← this]
  exact cL (.tmp rfl (bx rfl (by rw [av EncL.len,hs])))
end Go.Proofs.YtdndfncpglfdeaaGreatDoor.Cu

namespace Go.Proofs.YtdndfncpglfdeaaGreatDoor.Cu
set_option linter.unusedVariables false
set_option linter.unusedSimpArgs false
open Go.RowKit Go.Proofs.YtdndfncpglfdeaaGreatDoor.Ev
abbrev Ch:=Int×Int×Int
def dp (l:Line) (k:Int):Int:=pre l.dust k.toNat
def cp (l:Line) (k:Int):Int:=pre l.chip k.toNat
def OkP (l:Line) (i:Nat) (p:Int):Prop:=p+aR l i≤l.len∧0≤gOf l i p
instance (l:Line) (i:Nat) (p:Int):Decidable (OkP l i p):=by unfold OkP;infer_instance
def cY (l:Line) (V:Int→Int) (i:Nat) (p:Int):Int :=
 gOf l i p+(if 0≤aA l (p+aR l i) then dp l (aA l (p+aR l i)) - dp l (p+aR l i)+V (aA l (p+aR l i)) else 0)
def dV (l:Line) (V:Int→Int) (p:Int):Nat→Ch
 | 0=>(-1,-1,0)
 | k+1=>if OkP l k p∧((dV l V p k).1 < 0∨(dV l V p k).2.2 < cY l V k p) then ((k:Int),p,cY l V k p) else dV l V p k
def grp (l:Line) (V:Int→Int) (paid p:Int):Nat→Ch→Ch
 | 0,b=>b
 | k+1,b=>if OkP l k p∧(grp l V paid p k b).2.2 < paid+cY l V k p then ((k:Int),p,paid+cY l V k p) else grp l V paid p k b
def gH (l:Line) (e:Int) (m:Nat):Int:=e+m * l.pitch+l.kerf
def cR (l:Line) (e q:Int):Int:=cp l (q - l.kerf) - cp l e+dp l q - dp l (q - l.kerf)
def cP (l:Line) (V:Int→Int) (e:Int):Nat→Ch
 | 0=>grp l V 0 e l.sizes.length (-1,-1,cp l l.len - cp l e)
 | m+1=>if gH l e (m+1)≤l.len then grp l V (cR l e (gH l e (m+1))) (gH l e (m+1)) l.sizes.length (cP l V e m) else cP l V e m
def eJ (l:Line) (V:Int→Int) (e:Int):Ch:=cP l V e l.len.toNat
def Tb (l:Line):Nat→Int→Ch
 | 0,_=>(-1,-1,0)
 | n+1,e=>eJ l (fun e'=>(Tb l n e').2.2) e
def TT (l:Line) (e:Int):Ch:=Tb l (l.len.toNat+1) e
def TV (l:Line) (e:Int):Int:=(TT l e).2.2
theorem gn (l:Line) (e:Int) (m:Nat):gH l e (m+1)=gH l e m+l.pitch:=by
 unfold gH
 rw [show ((m+1:Nat):Int)=(m:Int)+1 by omega,Int.add_mul];omega
theorem atP_ge {l:Line} (v:Valid l) (e:Int):∀ m:Nat,e+l.kerf+m≤gH l e m
 | 0=>by unfold gH;omega
 | m+1=>by
  have:=atP_ge v e m
  have:=v.pitch
  rw [gn];omega
theorem fm (l:Line) (V:Int→Int) (p:Int):∀ k,dV l V p k=(-1,-1,0)∨(0≤(dV l V p k).1∧(dV l V p k).1 < k∧(dV l V p k).2.1=p∧OkP l (dV l V p k).1.toNat p∧(dV l V p k).2.2=cY l V (dV l V p k).1.toNat p)
 | 0=>.inl rfl
 | k+1=>by
  unfold dV
  split
  ·rename_i h
   exact .inr ⟨by simp,by simp;omega,rfl,by simpa using h.1,by simp⟩
  ·rcases fm l V p k with h|⟨h1,h2,h3⟩
   ·exact .inl h
   ·exact .inr ⟨h1,by omega,h3⟩
theorem gu (l:Line) (V:Int→Int) (paid p:Int) (b:Ch):∀ k,grp l V paid p k b=if 0≤(dV l V p k).1∧b.2.2 < (dV l V p k).2.2+paid then ((dV l V p k).1,p,(dV l V p k).2.2+paid) else b
 | 0=>by simp [grp,dV]
 | k+1=>by
  unfold grp dV
  rw [gu l V paid p b k]
  have hs:=fm l V p k
  generalize dV l V p k=s at *
  generalize cY l V k p=c at *
  by_cases ho:OkP l k p
  ·simp only [ho,true_and]
   by_cases h2:s.1 < 0∨s.2.2 < c
   ·rw [if_pos h2]
    dsimp only
    by_cases h1:0≤s.1∧b.2.2 < s.2.2+paid
    ·rw [if_pos h1,if_pos (by show s.2.2+paid < paid+c;omega),if_pos (by omega),Int.add_comm]
    ·rw [if_neg h1]
     by_cases h3:b.2.2 < paid+c
     ·rw [if_pos h3,if_pos (by omega),Int.add_comm]
     ·rw [if_neg h3,if_neg (by omega)]
   ·rw [if_neg h2]
    by_cases h1:0≤s.1∧b.2.2 < s.2.2+paid
    ·rw [if_pos h1,if_neg (by show ¬ s.2.2+paid < paid+c;omega)]
    ·rw [if_neg h1,if_neg (by omega)]
  ·simp only [ho,false_and,if_false]
theorem posS_succ (l:Line) (V:Int→Int) (e:Int) (m:Nat):cP l V e (m+1)=if gH l e (m+1)≤l.len then grp l V (cR l e (gH l e (m+1))) (gH l e (m+1)) l.sizes.length (cP l V e m) else cP l V e m:=rfl
theorem posS_stop {l:Line} (v:Valid l) (V:Int→Int) (e:Int) {m:Nat} (h:l.len < gH l e (m+1)):∀ k,cP l V e (m+k)=cP l V e m
 | 0=>rfl
 | k+1=>by
  have hm:∀ j:Nat,gH l e (m+1)≤gH l e (m+1+j):=by
   intro j
   induction j with
   | zero=>exact Int.le_refl _
   | succ j ih=>have:=v.pitch;rw [show m+1+(j+1)=(m+1+j)+1 by omega,gn l e (m+1+j)];omega
  have:=hm k
  rw [show m+(k+1)=(m+k)+1 by omega,posS_succ,if_neg (by rw [show m+k+1=m+1+k by omega];omega)]
  exact posS_stop v V e h k
theorem posS_end {l:Line} (v:Valid l) (V:Int→Int) {e:Int} (he:0≤e) {m:Nat} (h:l.len < gH l e (m+1)):cP l V e m=eJ l V e:=by
 have h2:l.len < gH l e (l.len.toNat+1):=by
  have:=atP_ge v e (l.len.toNat+1)
  have:=v.kerf;have:=v.len
  omega
 unfold eJ
 rw [← posS_stop v V e h l.len.toNat,← posS_stop v V e h2 m,Nat.add_comm]
theorem fh {l:Line} (v:Valid l) {q:Int} (h0:0≤q) (h1:q≤l.len):(q=l.len∧aA l q=-1)∨(q < l.len∧q≤aA l q∧aA l q≤l.len∧aA l q=min (q+l.kerf) l.len):=by
 unfold aA
 have:=v.kerf
 by_cases hc:q=l.len
 ·exact .inl ⟨hc,if_pos hc⟩
 ·rw [if_neg hc];exact .inr ⟨by omega,by omega,by omega,rfl⟩
theorem sz_pos {l:Line} (v:Valid l) {i:Nat} (h:i < l.sizes.length):1≤aR l i:=by
 rw [szOf_nat h];exact (v.size i h).1
theorem candV_congr {l:Line} (v:Valid l) {V V':Int→Int} {e p:Int} (he:0≤e) (hp:e≤p) (h:∀ x,e < x→x≤l.len→V x=V' x) {i:Nat} (hi:i < l.sizes.length) (ho:OkP l i p):cY l V i p=cY l V' i p:=by
 have hs:=sz_pos v hi
 unfold cY
 rcases fh v (q:=p+aR l i) (by omega) ho.1 with ⟨_,hb⟩|⟨_,h1,h2,_⟩
 ·rw [hb];simp
 ·rw [h _ (by omega) h2]
theorem stS_congr {l:Line} (v:Valid l) {V V':Int→Int} {e p:Int} (he:0≤e) (hp:e≤p) (h:∀ x,e < x→x≤l.len→V x=V' x):∀ k,k≤l.sizes.length→dV l V p k=dV l V' p k
 | 0,_=>rfl
 | k+1,hk=>by
  unfold dV
  rw [stS_congr v he hp h k (by omega)]
  by_cases ho:OkP l k p
  ·rw [candV_congr v he hp h (by omega) ho]
  ·rw [if_neg (fun hh=>ho hh.1),if_neg (fun hh=>ho hh.1)]
theorem grp_congr {l:Line} (v:Valid l) {V V':Int→Int} {e p:Int} (he:0≤e) (hp:e≤p) (h:∀ x,e < x→x≤l.len→V x=V' x) (paid:Int) (b:Ch):grp l V paid p l.sizes.length b=grp l V' paid p l.sizes.length b:=by
 rw [gu,gu,stS_congr v he hp h _ (Nat.le_refl _)]
theorem posS_congr {l:Line} (v:Valid l) {V V':Int→Int} {e:Int} (he:0≤e) (h:∀ x,e < x→x≤l.len→V x=V' x):∀ m,cP l V e m=cP l V' e m
 | 0=>by unfold cP;exact grp_congr v he (Int.le_refl _) h _ _
 | m+1=>by
  have:=atP_ge v e (m+1)
  have:=v.kerf
  unfold cP
  rw [posS_congr v he h m,grp_congr v he (by omega) h]
theorem T_fuel {l:Line} (v:Valid l):∀ (n m:Nat) (e:Int),0≤e→e≤l.len→l.len - e < n→l.len - e < m→Tb l n e=Tb l m e
 | 0,_,e,_,_,_,_=>by omega
 | n+1,0,e,_,_,_,_=>by omega
 | n+1,m+1,e,h0,h1,h2,h3=>by
  unfold Tb eJ
  exact posS_congr v h0 (fun x hx hx2=>by
   show (Tb l n x).2.2=(Tb l m x).2.2
   rw [T_fuel v n m x (by omega) hx2 (by omega) (by omega)]) _
theorem TT_eq {l:Line} (v:Valid l) {e:Int} (h0:0≤e) (h1:e≤l.len):TT l e=eJ l (TV l) e:=by
 unfold TT
 rw [T_fuel v (l.len.toNat+1) (l.len.toNat+1+1) e h0 h1 (by omega) (by omega)]
 rfl
def VB (l:Line) (V:Int→Int) (e:Int):Prop:=∀ x,e < x→x≤l.len→-1125899906842624 * (l.len - x)≤V x∧V x≤1125899906842624 * (l.len - x)
theorem gOf_bd {l:Line} (v:Valid l) {i:Nat} (hi:i < l.sizes.length) {p:Int} (h0:0≤p) (h1:p+aR l i≤l.len):-1125899906842624≤gOf l i p∧gOf l i p≤1125899906842624:=by
 rw [szOf_nat hi] at h1
 obtain ⟨j,rfl,h2,h3,h4⟩:=gOf_eq v hi h0 (by omega)
 rw [h4];exact v.gains _ h2 _ h3
theorem dp_bd {l:Line} (v:Valid l) {a b:Int} (h0:0≤a) (h1:a≤b) (h2:b≤l.len):-1125899906842624 * (b - a)≤dp l b - dp l a∧dp l b - dp l a≤1125899906842624 * (b - a):=by
 have hd:=v.dust
 have:=pre_bd' v.dusts a.toNat b.toNat (by omega) (by omega)
 unfold dp
 rw [show (a.toNat:Int)=a by omega,show (b.toNat:Int)=b by omega] at this
 exact this
theorem cp_bd {l:Line} (v:Valid l) {a b:Int} (h0:0≤a) (h1:a≤b) (h2:b≤l.len):-1125899906842624 * (b - a)≤cp l b - cp l a∧cp l b - cp l a≤1125899906842624 * (b - a):=by
 have hd:=v.chip
 have:=pre_bd' v.chips a.toNat b.toNat (by omega) (by omega)
 unfold cp
 rw [show (a.toNat:Int)=a by omega,show (b.toNat:Int)=b by omega] at this
 exact this
theorem candV_bd {l:Line} (v:Valid l) {V:Int→Int} {e p:Int} (he:0≤e) (hp:e≤p) (h:VB l V e) {i:Nat} (hi:i < l.sizes.length) (ho:OkP l i p):-1125899906842624 * (l.len - p)≤cY l V i p∧cY l V i p≤1125899906842624 * (l.len - p):=by
 have hs:=sz_pos v hi
 have hg:=gOf_bd v hi (by omega) ho.1
 have ho1:=ho.1
 unfold cY
 rcases fh v (q:=p+aR l i) (by omega) ho.1 with ⟨_,hb⟩|⟨_,h1,h2,_⟩
 ·rw [hb,if_neg (by omega)];omega
 ·rw [if_pos (by omega)]
  have h3:=dp_bd v (by omega) h1 h2
  have h4:=h _ (by omega) h2
  omega
theorem stS_bd {l:Line} (v:Valid l) {V:Int→Int} {e p:Int} (he:0≤e) (hp:e≤p) (hpl:p≤l.len) (h:VB l V e) {k:Nat} (hk:k≤l.sizes.length):-1125899906842624 * (l.len - p)≤(dV l V p k).2.2∧(dV l V p k).2.2≤1125899906842624 * (l.len - p):=by
 rcases fm l V p k with h1|⟨h1,h2,h3,h4,h5⟩
 ·rw [h1];dsimp only;omega
 ·rw [h5];exact candV_bd v he hp h (by omega) h4
theorem paidP_bd {l:Line} (v:Valid l) {e q:Int} (he:0≤e) (h1:e≤q - l.kerf) (h2:q≤l.len):-1125899906842624 * (q - e)≤cR l e q∧cR l e q≤1125899906842624 * (q - e):=by
 have:=v.kerf
 have a1:=cp_bd v he h1 (by omega)
 have a2:=dp_bd v (a:=q - l.kerf) (b:=q) (by omega) (by omega) h2
 unfold cR
 omega
theorem posS_bd {l:Line} (v:Valid l) {V:Int→Int} {e:Int} (he:0≤e) (hel:e≤l.len) (h:VB l V e):∀ m,-1125899906842624 * (l.len - e)≤(cP l V e m).2.2∧(cP l V e m).2.2≤1125899906842624 * (l.len - e)
 | 0=>by
  have:=stS_bd v he (Int.le_refl _) hel h (Nat.le_refl _)
  have:=cp_bd v he hel (Int.le_refl _)
  unfold cP
  rw [gu]
  split<;>dsimp only<;>omega
 | m+1=>by
  have ih:=posS_bd v he hel h m
  unfold cP
  split
  ·rename_i hq
   have h1:=atP_ge v e (m+1)
   have:=v.kerf
   generalize gH l e (m+1)=q at *
   have h2:=stS_bd v he (p:=q) (by omega) hq h (Nat.le_refl _)
   have h3:=paidP_bd v he (q:=q) (by omega) hq
   rw [gu]
   split
   ·dsimp only;omega
   ·exact ih
  ·exact ih
theorem T_bd {l:Line} (v:Valid l):∀ (n:Nat) (e:Int),0≤e→e≤l.len→-1125899906842624 * (l.len - e)≤(Tb l n e).2.2∧(Tb l n e).2.2≤1125899906842624 * (l.len - e)
 | 0,e,h0,h1=>by unfold Tb;dsimp only;omega
 | n+1,e,h0,h1=>posS_bd v h0 h1 (fun x hx hx2=>T_bd v n x (by omega) hx2) _
theorem TV_bd {l:Line} (v:Valid l) {e:Int} (he:0≤e):VB l (TV l) e:=fun x hx hx2=>T_bd v _ x (by omega) hx2
theorem posS_sgn (l:Line) (V:Int→Int) (e:Int):∀ m,((cP l V e m).1=-1∧(cP l V e m).2.1=-1)∨∃ q,(q=e∨∃ j:Nat,1≤j∧q=gH l e j∧q≤l.len)∧0≤(cP l V e m).1∧(cP l V e m).1 < l.sizes.length∧(cP l V e m).2.1=q∧OkP l (cP l V e m).1.toNat q
 | 0=>by
  unfold cP
  rw [gu]
  split
  ·rename_i h
   rcases fm l V e l.sizes.length with h1|⟨h1,h2,h3,h4,h5⟩
   ·rw [h1] at h;simp at h
   ·exact .inr ⟨e,.inl rfl,h1,h2,rfl,h4⟩
  ·exact .inl ⟨rfl,rfl⟩
 | m+1=>by
  unfold cP
  split
  ·rename_i hq
   rw [gu]
   split
   ·rename_i h
    rcases fm l V (gH l e (m+1)) l.sizes.length with h1|⟨h1,h2,h3,h4,h5⟩
    ·rw [h1] at h;simp at h
    ·exact .inr ⟨_,.inr ⟨m+1,by omega,rfl,hq⟩,h1,h2,rfl,h4⟩
   ·exact posS_sgn l V e m
  ·exact posS_sgn l V e m
end Go.Proofs.YtdndfncpglfdeaaGreatDoor.Cu

namespace Go.Proofs.YtdndfncpglfdeaaGreatDoor.Cu
set_option linter.unusedVariables false
set_option linter.unusedSimpArgs false
open Go.RowKit Go.Proofs.YtdndfncpglfdeaaGreatDoor.Ev
abbrev G:List (Nat×List CV):=[(0,[I (-1),I (-1)])]
def chC (c:Ch):List CV:=[I c.1,I c.2.1,I c.2.2]
instance:EncL chC 3:=⟨fun _=>rfl,by decide,fun _=>rfl⟩
abbrev LC (l:List Ch):CV:=.lst 3 (l.flatMap chC)
def VE (es:List Ch) (x:Int):Int:=(es.getD x.toNat (0,0,0)).2.2
theorem VE_get {es:List Ch} {k:Nat} (h:k < es.length):es[k].2.2=VE es k:=by
 unfold VE;rw [Int.toNat_natCast,List.getD_eq_getElem?_getD,List.getElem?_eq_getElem h];rfl
theorem VE_int {es:List Ch} {k:Int} (h0:0≤k) (h:k.toNat < es.length):es[k.toNat].2.2=VE es k:=by
 rw [VE_get h,Int.toNat_of_nonneg h0]
theorem dp_get {l:Line} {k:Int} (h:k.toNat < (bi l.dust).length):(bi l.dust)[k.toNat]=dp l k:=sumsS_get _ _ _
theorem cp_get {l:Line} {k:Int} (h:k.toNat < (bi l.chip).length):(bi l.chip)[k.toNat]=cp l k:=sumsS_get _ _ _
theorem gOf_get {l:Line} {k:Nat} {p:Int} (h:k < l.gain.length) (h2:p.toNat < l.gain[k].length):gOf l k p=l.gain[k][p.toNat]:=by
 unfold gOf
 rw [Int.toNat_natCast,List.getD_eq_getElem?_getD,List.getD_eq_getElem?_getD,List.getElem?_eq_getElem h]
 simp only [Option.getD_some]
 rw [List.getElem?_eq_getElem h2];rfl
theorem dp_le {l:Line} (v:Valid l) {k:Int} (h1:k≤l.len):-1125899906842624 * 2000≤dp l k∧dp l k≤1125899906842624 * 2000:=by
 have:=v.len;have:=v.dust
 exact pre_le v.dusts (by omega) (by omega)
theorem cp_le {l:Line} (v:Valid l) {k:Int} (h1:k≤l.len):-1125899906842624 * 2000≤cp l k∧cp l k≤1125899906842624 * 2000:=by
 have:=v.len;have:=v.chip
 exact pre_le v.chips (by omega) (by omega)
theorem st_no {l:Line} {V:Int→Int} {p:Int} {k:Nat} (h:¬ OkP l k p):dV l V p (k+1)=dV l V p k:=by
 show (if _ then _ else _)=_
 rw [if_neg (fun hh=>h hh.1)]
theorem st_yes {l:Line} {V:Int→Int} {p c:Int} {k:Nat} (h:OkP l k p) (hc:cY l V k p=c) (hb:(dV l V p k).1 < 0∨(dV l V p k).2.2 < c):dV l V p (k+1)=((k:Int),p,c):=by
 show (if _ then _ else _)=_
 rw [hc,if_pos ⟨h,hb⟩]
theorem st_keep {l:Line} {V:Int→Int} {p c:Int} {k:Nat} (hc:cY l V k p=c) (hb:¬ ((dV l V p k).1 < 0∨(dV l V p k).2.2 < c)):dV l V p (k+1)=dV l V p k:=by
 show (if _ then _ else _)=_
 rw [hc,if_neg (fun hh=>hb hh.2)]
theorem start_con (l:Line) (v:Valid l) (p:Int) (hp0:0≤p) (hp1:p≤l.len) (es:List Ch) (hes:(es.length:Int)=l.len+1) (hV:VB l (VE es) p):bm Tryz.prog G 112 [ef l,I p,LI (bi l.dust),LC es] (.agg [I (dV l (VE es) p l.sizes.length).1,I (dV l (VE es) p l.sizes.length).2.1,I (dV l (VE es) p l.sizes.length).2.2]):=by
 have hl:=v.len
 have hlk:=v.kerf
 have hld:=v.dust
 have hsl:=sumsS_len l.dust
 have hss:=v.sizes
 refine ao Tryz.func112 rfl (by kernel_rfl) rfl ?_
 simp only [Tryz.ntmps112,Tryz.results112,am,ofC,aZ,List.map,ef,lineL]
 repeat' (first
 | ((with_reducible apply (dT (zs:=[I (-1),I (-1)]) (ys:=[])));iterate 4 exact rfl)
 | (refine zs ?_)
 | fail
 )
 refine au (G:=Nat×Ch) (fun ((k,b):Nat×Ch)=>k≤l.sizes.length∧b=dV l (VE es) p k) (fun ((k,b):Nat×Ch)=>l.sizes.length - k) (fun ((k,b):Nat×Ch)=>[(1,A p),(2,.c (LI (bi l.dust))),(3,.c (LC es)),(4,.ptr 0 0),(8,.ptr 1 0),(9,.ptr 2 0),(18,.c (LI l.sizes)),(19,A l.sizes.length),(20,A k)]) (fun ((k,b):Nat×Ch)=>[(0,some (lineB l)),(1,some (.cells 136 [A 0,A 0,A 0])),(2,some (.cells 136 [A b.1,A b.2.1,A b.2.2]))]) 3 (0,(-1,-1,0)) ?_ (by refine ak rfl ?_ ?_<;>repeat (first|exact ai|exact ac|refine ae rfl rfl ?_|refine ab rfl rfl rfl ?_)) rfl ?_
 ·exact ⟨Nat.zero_le _,rfl⟩
 rintro ⟨k,b⟩ hI
 try dsimp only at hI
 try dsimp only
 obtain ⟨hk,hb⟩:=hI
 by_cases hkl:k < l.sizes.length
 ·have hsk:=v.size k hkl
  have hgk:k < l.gain.length:=by have:=v.gain;omega
  have hrow:=v.row k hgk hkl
  have hsz:=szOf_nat hkl
  have hbs:=stS_bd v hp0 (Int.le_refl p) hp1 hV (Nat.le_of_lt hkl)
  have hsg:=fm l (VE es) p k
  rw [← hb] at hbs hsg
  have hs2:(b.1=-1∧b.2.1=-1)∨0≤b.1:=by
   rcases hsg with h|h
   ·left;rw [h];exact ⟨rfl,rfl⟩
   ·right;exact h.1
  by_cases ho1:p+l.sizes[k]≤l.len
  ·have hpl:p.toNat < l.gain[k].length:=by omega
   have hgo:=gOf_get hgk hpl
   have hgb:=v.gains k hgk p.toNat hpl
   by_cases ho2:0≤l.gain[k][p.toNat]
   ·have hok:OkP l k p:=⟨by rw [hsz];exact ho1,by rw [hgo];exact ho2⟩
    have hcb:=candV_bd v hp0 (Int.le_refl p) hV hkl hok
    have hcv:cY l (VE es) k p=cY l (VE es) k p:=rfl
    conv at hcv=>rhs;unfold cY
    rw [hsz,hgo] at hcv
    have hbc:=behind_con (gl:=G) l (p+l.sizes[k]) (by unfold aQ;omega)
    have hbe:=fh v (q:=p+l.sizes[k]) (by omega) ho1
    generalize aA l (p+l.sizes[k])=be at hbc hbe hcv
    rcases hbe with ⟨hq,hbe⟩|⟨hq,hb1,hb2,hb3⟩
    ·rw [if_neg (by omega)] at hcv
     repeat' (first
 | ((with_reducible apply (dT (zs:=[I (-1),I (-1)]) (ys:=[])));iterate 4 exact rfl)
 | ((with_reducible apply ah);exact rfl;exact rfl;exact hbc;exact rfl;exact rfl)
 | ((first|((with_reducible apply aj);iterate 4 exact rfl)|((with_reducible apply aa);exact rfl))<;>intro hg<;>(first|(exact absurd hg (by decide))|((try simp only [qz,ge_iff_le,List.cons.injEq,and_true] at hg);first|(exact absurd trivial hg)|(exfalso;omega)|(have hT:True:=hg;clear hT hg)|skip)))
 | (refine zs ?_)
 | fail
 )
     ·skip
      refine ⟨(k+1,((k:Int),p,l.gain[k][p.toNat])),?_,?_,by refine ak rfl ?_ ?_<;>repeat (first|exact ai|exact ac|refine ae rfl rfl ?_|refine ab rfl rfl rfl ?_)⟩
      ·show _ - (k+1) < _ - k;omega
      ·exact ⟨by show k+1≤_;omega,(st_yes hok (hcv.trans (by omega)) (by rw [← hb];omega)).symm⟩
     ·skip
      refine ⟨(k+1,b),?_,?_,by refine ak rfl ?_ ?_<;>repeat (first|exact ai|exact ac|refine ae rfl rfl ?_|refine ab rfl rfl rfl ?_)⟩
      ·show _ - (k+1) < _ - k;omega
      ·exact ⟨by show k+1≤_;omega,by show b=_;rw [st_keep hcv (by rw [← hb];omega)];exact hb⟩
     ·skip
      refine ⟨(k+1,((k:Int),p,l.gain[k][p.toNat])),?_,?_,by refine ak rfl ?_ ?_<;>repeat (first|exact ai|exact ac|refine ae rfl rfl ?_|refine ab rfl rfl rfl ?_)⟩
      ·show _ - (k+1) < _ - k;omega
      ·exact ⟨by show k+1≤_;omega,(st_yes hok (hcv.trans (by omega)) (by rw [← hb];omega)).symm⟩
    ·rw [if_pos (by omega)] at hcv
     have hd1:=dp_get (l:=l) (k:=be) (by omega)
     have hd2:=dp_get (l:=l) (k:=p+l.sizes[k]) (by omega)
     have he1:=VE_int (es:=es) (k:=be) (by omega) (by omega)
     have hd3:=dp_le v (k:=be) hb2
     have hd4:=dp_le v (k:=p+l.sizes[k]) ho1
     have hd5:=hV be (by omega) hb2
     rw [← hd1,← hd2,← he1] at hcv
     rw [← hd1] at hd3
     rw [← hd2] at hd4
     rw [← he1] at hd5
     repeat' (first
 | ((with_reducible apply (dT (zs:=[I (-1),I (-1)]) (ys:=[])));iterate 4 exact rfl)
 | ((with_reducible apply ah);exact rfl;exact rfl;exact hbc;exact rfl;exact rfl)
 | (refine aL 19 ?_ ?_;(kernel_rfl);(simp only [List.take_succ_cons,List.take_zero,List.drop_succ_cons,List.drop_zero]))
 | ((first|((with_reducible apply aj);iterate 4 exact rfl)|((with_reducible apply aa);exact rfl))<;>intro hg<;>(first|(exact absurd hg (by decide))|((try simp only [qz,ge_iff_le,List.cons.injEq,and_true] at hg);first|(exact absurd trivial hg)|(exfalso;omega)|(have hT:True:=hg;clear hT hg)|skip)))
 | (refine zs ?_)
 | fail
 )
     ·skip
      refine ⟨(k+1,((k:Int),p,l.gain[k][p.toNat]+((bi l.dust)[be.toNat]'(by omega) - (bi l.dust)[(p+l.sizes[k]).toNat]'(by omega)+(es[be.toNat]'(by omega)).2.2))),?_,?_,by refine ak rfl ?_ ?_<;>repeat (first|exact ai|exact ac|refine ae rfl rfl ?_|refine ab rfl rfl rfl ?_)⟩
      ·show _ - (k+1) < _ - k;omega
      ·exact ⟨by show k+1≤_;omega,(st_yes hok (hcv.trans (by omega)) (by rw [← hb];omega)).symm⟩
     ·skip
      refine ⟨(k+1,b),?_,?_,by refine ak rfl ?_ ?_<;>repeat (first|exact ai|exact ac|refine ae rfl rfl ?_|refine ab rfl rfl rfl ?_)⟩
      ·show _ - (k+1) < _ - k;omega
      ·exact ⟨by show k+1≤_;omega,by show b=_;rw [st_keep hcv (by rw [← hb];omega)];exact hb⟩
     ·skip
      refine ⟨(k+1,((k:Int),p,l.gain[k][p.toNat]+((bi l.dust)[be.toNat]'(by omega) - (bi l.dust)[(p+l.sizes[k]).toNat]'(by omega)+(es[be.toNat]'(by omega)).2.2))),?_,?_,by refine ak rfl ?_ ?_<;>repeat (first|exact ai|exact ac|refine ae rfl rfl ?_|refine ab rfl rfl rfl ?_)⟩
      ·show _ - (k+1) < _ - k;omega
      ·exact ⟨by show k+1≤_;omega,(st_yes hok (hcv.trans (by omega)) (by rw [← hb];omega)).symm⟩
   ·have hok:¬ OkP l k p:=fun hh=>ho2 (by rw [← hgo];exact hh.2)
    repeat' (first
 | ((first|((with_reducible apply aj);iterate 4 exact rfl)|((with_reducible apply aa);exact rfl))<;>intro hg<;>(first|(exact absurd hg (by decide))|((try simp only [qz,ge_iff_le,List.cons.injEq,and_true] at hg);first|(exact absurd trivial hg)|(exfalso;omega)|(have hT:True:=hg;clear hT hg)|skip)))
 | (refine zs ?_)
 | fail
 )
    refine ⟨(k+1,b),?_,?_,by refine ak rfl ?_ ?_<;>repeat (first|exact ai|exact ac|refine ae rfl rfl ?_|refine ab rfl rfl rfl ?_)⟩
    ·show _ - (k+1) < _ - k;omega
    ·exact ⟨by show k+1≤_;omega,by show b=_;rw [hb,st_no hok]⟩
  ·have hok:¬ OkP l k p:=fun hh=>ho1 (by rw [← hsz];exact hh.1)
   repeat' (first
 | ((first|((with_reducible apply aj);iterate 4 exact rfl)|((with_reducible apply aa);exact rfl))<;>intro hg<;>(first|(exact absurd hg (by decide))|((try simp only [qz,ge_iff_le,List.cons.injEq,and_true] at hg);first|(exact absurd trivial hg)|(exfalso;omega)|(have hT:True:=hg;clear hT hg)|skip)))
 | (refine zs ?_)
 | fail
 )
   refine ⟨(k+1,b),?_,?_,by refine ak rfl ?_ ?_<;>repeat (first|exact ai|exact ac|refine ae rfl rfl ?_|refine ab rfl rfl rfl ?_)⟩
   ·show _ - (k+1) < _ - k;omega
   ·exact ⟨by show k+1≤_;omega,by show b=_;rw [hb,st_no hok]⟩
 ·skip
  repeat' (first
 | (((with_reducible apply aa);exact rfl)<;>intro hg<;>(first|(exact absurd hg (by decide))|((try simp only [qz,ge_iff_le,List.cons.injEq,and_true] at hg);first|(exact absurd trivial hg)|(exfalso;omega)|(have hT:True:=hg;clear hT hg)|skip)))
 | (refine zs ?_)
 | fail
 )
  obtain rfl:k=l.sizes.length:=by omega
  rw [← hb]
  exact cL (.cell_a inferInstance rfl rfl rfl rfl (al ap (al ap (al ap bj))))
end Go.Proofs.YtdndfncpglfdeaaGreatDoor.Cu
