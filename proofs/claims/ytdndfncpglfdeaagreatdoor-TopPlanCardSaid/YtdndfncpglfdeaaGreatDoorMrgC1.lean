/- CutK CutL CutU CutMo CutMp: texts laid together. -/
import Derived.Test.YtdndfncpglfdeaaGreatDoorMrgC0
import Derived.Test.YtdndfncpglfdeaaGreatDoorMrgS
set_option maxRecDepth 100000
set_option maxHeartbeats 64000000

namespace Go.Proofs.YtdndfncpglfdeaaGreatDoor.Cu
set_option linter.unusedVariables false
set_option linter.unusedSimpArgs false
open Go.RowKit Go.Proofs.YtdndfncpglfdeaaGreatDoor.Ev
def gr (l:Line):List Ch:=(List.range (l.len.toNat+1)).map fun e:Nat=>TT l (e:Int)
@[simp] theorem tabS_len (l:Line):(gr l).length=l.len.toNat+1:=by simp [gr]
theorem tabS_get (l:Line) (k:Nat) (h:k < (gr l).length):(gr l)[k]=TT l k:=by simp [gr]
theorem tabS_of {l:Line} {s:List Ch} (hn:s.length=l.len.toNat+1) (h:∀ i (hi:i < s.length),s[i]=TT l i):s=gr l:=by
 refine List.ext_getElem (by simp [hn]) (fun i h1 h2=>?_)
 rw [h i h1,tabS_get]
structure Kn (l:Line) (p:Int) (es ss:List Ch):Prop where
 en:es.length=l.len.toNat+1
 sn:ss.length=l.len.toNat+1
 e:∀ i (h:i < es.length),p < i→es[i]=TT l i
 s:∀ i (h:i < ss.length),p < i→ss[i]=dV l (TV l) i l.sizes.length
theorem Kn.ve {l:Line} {p:Int} {es ss:List Ch} (h:Kn l p es ss) (x:Int) (h1:p < x) (h0:0≤x) (h2:x≤l.len):VE es x=TV l x:=by
 have hx:x.toNat < es.length:=by have:=h.en;omega
 rw [← VE_int h0 hx,h.e _ hx (by omega),Int.toNat_of_nonneg h0];rfl
theorem choices_con (l:Line) (v:Valid l):bm Tryz.prog G 57 [ef l] (LC (gr l)):=by
 have hl:=v.len
 have hlk:=v.kerf
 have hlp:=v.pitch
 have hld:=v.dust
 have hlc:=v.chip
 have hsd:=sumsS_len l.dust
 have hsc:=sumsS_len l.chip
 have hss:=v.sizes
 refine ao Tryz.func57 rfl (by kernel_rfl) rfl ?_
 simp only [Tryz.ntmps57,Tryz.results57,am,ofC,aZ,List.map,ef,lineL]
 repeat' (first
 | ((with_reducible apply ah);exact rfl;exact rfl;(first|exact sums_con l.chip v.chips (by omega)|exact sums_con l.dust v.dusts (by omega));exact rfl;exact rfl)
 | ((with_reducible apply r_make (enc:=chC) (0,0,0) (l.len.toNat+1));exact inferInstance;(iterate 3 exact rfl);(exact (by omega));(exact (by omega));omega;omega;exact rfl)
 | (refine zs ?_)
 | fail
 )
 refine au (G:=Int×List Ch×List Ch) (fun ((p,es,ss):Int×List Ch×List Ch)=>-1≤p∧p≤l.len∧Kn l p es ss) (fun ((p,es,ss):Int×List Ch×List Ch)=>(p+1).toNat) (fun ((p,es,ss):Int×List Ch×List Ch)=>[(1,.ptr 0 0),(3,.c (LI (bi l.chip))),(4,.c (LI (bi l.dust))),(5,.vec 1 (l.len.toNat+1)),(6,.vec 2 (l.len.toNat+1)),(7,A p)]) (fun ((p,es,ss):Int×List Ch×List Ch)=>[(0,some (lineB l)),(1,some (.vec 136 3 (es.flatMap chC))),(2,some (.vec 136 3 (ss.flatMap chC)))]) 3 (l.len,List.replicate (l.len.toNat+1) (0,0,0),List.replicate (l.len.toNat+1) (0,0,0)) ?_ (by refine ak rfl ?_ ?_<;>repeat (first|exact ai|exact ac|refine ae rfl rfl ?_|refine ab rfl rfl rfl ?_)) rfl ?_
 ·exact ⟨by show -1≤l.len;omega,Int.le_refl _,⟨by simp,by simp,fun i h hp=>by simp at h;omega,fun i h hp=>by simp at h;omega⟩⟩
 rintro ⟨p,es,ss⟩ hI
 try dsimp only at hI
 try dsimp only
 obtain ⟨hp0,hp1,kn⟩:=hI
 by_cases hpl:0≤p
 ·have hV:VB l (VE es) p:=fun x hx hx2=>by
   rw [kn.ve x hx (by omega) hx2];exact TV_bd v hpl x hx hx2
  have hst:=start_con l v p hpl hp1 es (by have:=kn.en;omega) hV
  have hste:=stS_congr v hpl (Int.le_refl p) (V:=VE es) (V':=TV l) (fun x hx hx2=>kn.ve x hx (by omega) hx2) l.sizes.length (Nat.le_refl _)
  rw [hste] at hst
  have hen:=kn.en
  have hsn:=kn.sn
  repeat' (first
 | ((with_reducible apply r_callv);exact hst;exact rfl;exact al (clF_cl rfl) (al ap (al ap (al (bx rfl (by rw [av EncL.len,hen])) bj)));exact rfl;exact rfl)
 | (((with_reducible apply aa);exact rfl)<;>intro hg<;>(first|(exact absurd hg (by decide))|((try simp only [qz,ge_iff_le,List.cons.injEq,and_true] at hg);first|(exact absurd trivial hg)|(exfalso;omega)|(have hT:True:=hg;clear hT hg)|skip)))
 | (refine zs ?_)
 | fail
 )
  refine fS (enc:=chC) (k:=p.toNat) (l:=ss) (dV l (TV l) p l.sizes.length) rfl rfl inferInstance hsn (by omega) rfl rfl rfl rfl ?_
  have hnew:∀ i (h:i < (ss.set p.toNat (dV l (TV l) p l.sizes.length)).length),p - 1 < i→(ss.set p.toNat (dV l (TV l) p l.sizes.length))[i]=dV l (TV l) i l.sizes.length:=fun i h hi=>by
   by_cases e:i=p.toNat
   ·subst e;rw [List.getElem_set_self,Int.toNat_of_nonneg hpl]
   ·rw [List.getElem_set_ne (by omega)]
    exact kn.s i (by simpa using h) (by omega)
  have hsn':(ss.set p.toNat (dV l (TV l) p l.sizes.length)).length=l.len.toNat+1:=by simp [hsn]
  generalize ss.set p.toNat (dV l (TV l) p l.sizes.length)=ss' at hnew hsn'
  have hc1:=cp_get (l:=l) (k:=l.len) (by omega)
  have hc2:=cp_get (l:=l) (k:=p) (by omega)
  have hc3:=cp_le v (k:=l.len) (Int.le_refl _)
  have hc4:=cp_le v (k:=p) hp1
  rw [← hc1] at hc3
  rw [← hc2] at hc4
  have hat1:p+l.pitch+l.kerf=gH l p 1:=by unfold gH;omega
  have hs0:=hnew p.toNat (by omega) (by omega)
  rw [Int.toNat_of_nonneg hpl] at hs0
  have hsg0:=fm l (TV l) p l.sizes.length
  rw [← hs0] at hsg0
  have hs20:(ss'[p.toNat].1=-1∧ss'[p.toNat].2.1=-1)∨0≤ss'[p.toNat].1:=by
   rcases hsg0 with h|h
   ·left;rw [h];exact ⟨rfl,rfl⟩
   ·right;exact h.1
  have hs30:0≤ss'[p.toNat].1→ss'[p.toNat].2.1=p:=fun h0=>by
   rcases hsg0 with h|h
   ·rw [h] at h0;simp at h0
   ·exact h.2.2.1
  have hp00:cP l (TV l) p 0=if 0≤ss'[p.toNat].1∧(bi l.chip)[l.len.toNat] - (bi l.chip)[p.toNat] < ss'[p.toNat].2.2 then (ss'[p.toNat].1,p,ss'[p.toNat].2.2) else (-1,-1,(bi l.chip)[l.len.toNat] - (bi l.chip)[p.toNat]):=by
   show grp l (TV l) 0 p l.sizes.length _=_
   rw [gu,← hs0,hc1,hc2]
   simp only [Int.add_zero]
  repeat' (first
 | ((with_reducible apply (dT (zs:=[I (-1),I (-1)]) (ys:=[])));iterate 4 exact rfl)
 | (refine bT 12 ?_ rfl br rfl ?_;(kernel_rfl);(simp only [List.take_succ_cons,List.take_zero,List.drop_succ_cons,List.drop_zero]))
 | ((with_reducible apply cy);exact rfl)
 | ((first|((with_reducible apply aj);iterate 4 exact rfl)|((with_reducible apply aa);exact rfl))<;>intro hg<;>(first|(exact absurd hg (by decide))|((try simp only [qz,ge_iff_le,List.cons.injEq,and_true] at hg);first|(exact absurd trivial hg)|(exfalso;omega)|(have hT:True:=hg;clear hT hg)|skip)))
 | (refine zs ?_)
 | fail
 )
  ·skip
   refine au (G:=Nat×Int×Ch) (fun ((m,q,b):Nat×Int×Ch)=>q=gH l p (m+1)∧p+l.kerf+1≤q∧b=cP l (TV l) p m) (fun ((m,q,b):Nat×Int×Ch)=>(l.len+1 - q).toNat) (fun ((m,q,b):Nat×Int×Ch)=>[(1,.ptr 0 0),(3,.c (LI (bi l.chip))),(4,.c (LI (bi l.dust))),(5,.vec 1 (l.len.toNat+1)),(6,.vec 2 (l.len.toNat+1)),(7,A p),(8,.ptr 3 0),(10,A q)]) (fun ((m,q,b):Nat×Int×Ch)=>[(0,some (lineB l)),(1,some (.vec 136 3 (es.flatMap chC))),(2,some (.vec 136 3 (ss'.flatMap chC))),(3,some (.cells 136 [A b.1,A b.2.1,A b.2.2]))]) 5 (0,p+l.pitch+l.kerf,(ss'[p.toNat]'(by omega)).1,(ss'[p.toNat]'(by omega)).2.1,(ss'[p.toNat]'(by omega)).2.2) ?_ (by refine ak rfl ?_ ?_<;>repeat (first|exact ai|exact ac|refine ae rfl rfl ?_|refine ab rfl rfl rfl ?_)) rfl ?_
   ·exact ⟨hat1,by show p+l.kerf+1≤p+l.pitch+l.kerf;omega,by rw [hp00,if_pos (by omega)];exact Prod.ext rfl (Prod.ext (hs30 (by omega)) rfl)⟩
   rintro ⟨m,q,b⟩ hI
   try dsimp only at hI
   try dsimp only
   obtain ⟨hq0,hq1,hb⟩:=hI
   have hbb:=posS_bd v hpl hp1 (TV_bd v hpl) m
   rw [← hb] at hbb
   by_cases hql:q≤l.len
   ·have hsq:=hnew q.toNat (by omega) (by omega)
    rw [Int.toNat_of_nonneg (by omega)] at hsq
    have hsb:=stS_bd v hpl (p:=q) (by omega) hql (TV_bd v hpl) (Nat.le_refl _)
    have hsg:=fm l (TV l) q l.sizes.length
    rw [← hsq] at hsb hsg
    have g1:=cp_get (l:=l) (k:=q - l.kerf) (by omega)
    have g2:=dp_get (l:=l) (k:=q - l.kerf) (by omega)
    have g3:=dp_get (l:=l) (k:=q) (by omega)
    have g4:=cp_bd v hpl (b:=q - l.kerf) (by omega) (by omega)
    have g5:=dp_bd v (a:=q - l.kerf) (b:=q) (by omega) (by omega) hql
    have g6:=dp_le v (k:=q) hql
    rw [← g1,← hc2] at g4
    rw [← g2,← g3] at g5
    rw [← g3] at g6
    have hps:=posS_succ l (TV l) p m
    rw [← hq0,if_pos hql,gu,← hsq,← hb] at hps
    have hpd:cR l p q=(bi l.chip)[(q - l.kerf).toNat] - (bi l.chip)[p.toNat]+(bi l.dust)[q.toNat] - (bi l.dust)[(q - l.kerf).toNat]:=by
     unfold cR;rw [g1,g2,g3,hc2]
    rw [hpd] at hps
    have hnx:q+l.pitch=gH l p (m+1+1):=by rw [gn l p (m+1),← hq0]
    have hs2:(ss'[q.toNat].1=-1∧ss'[q.toNat].2.1=-1)∨0≤ss'[q.toNat].1:=by
     rcases hsg with h|h
     ·left;rw [h];exact ⟨rfl,rfl⟩
     ·right;exact h.1
    have hs3:0≤ss'[q.toNat].1→ss'[q.toNat].2.1=q:=fun h0=>by
     rcases hsg with h|h
     ·rw [h] at h0;simp at h0
     ·exact h.2.2.1
    repeat' (first
 | ((with_reducible apply (dT (zs:=[I (-1),I (-1)]) (ys:=[])));iterate 4 exact rfl)
 | (refine aL 23 ?_ ?_;(kernel_rfl);(simp only [List.take_succ_cons,List.take_zero,List.drop_succ_cons,List.drop_zero]))
 | ((first|((with_reducible apply aj);iterate 4 exact rfl)|((with_reducible apply aa);exact rfl))<;>intro hg<;>(first|(exact absurd hg (by decide))|((try simp only [qz,ge_iff_le,List.cons.injEq,and_true] at hg);first|(exact absurd trivial hg)|(exfalso;omega)|(have hT:True:=hg;clear hT hg)|skip)))
 | (refine zs ?_)
 | fail
 )
    ·skip
     refine ⟨(m+1,q+l.pitch,((ss'[q.toNat]'(by omega)).1,(ss'[q.toNat]'(by omega)).2.1,(ss'[q.toNat]'(by omega)).2.2+((bi l.chip)[(q - l.kerf).toNat]'(by omega) - (bi l.chip)[p.toNat]'(by omega)+(bi l.dust)[q.toNat]'(by omega) - (bi l.dust)[(q - l.kerf).toNat]'(by omega)))),?_,?_,by refine ak rfl ?_ ?_<;>repeat (first|exact ai|exact ac|refine ae rfl rfl ?_|refine ab rfl rfl rfl ?_)⟩
     ·show (l.len+1 - (q+l.pitch)).toNat < (l.len+1 - q).toNat;omega
     ·refine ⟨hnx,by show _≤q+l.pitch;omega,?_⟩
      show _=cP l (TV l) p (m+1)
      rw [hps,if_pos (by omega)]
      exact Prod.ext rfl (Prod.ext (hs3 (by omega)) rfl)
    ·skip
     refine ⟨(m+1,q+l.pitch,b),?_,?_,by refine ak rfl ?_ ?_<;>repeat (first|exact ai|exact ac|refine ae rfl rfl ?_|refine ab rfl rfl rfl ?_)⟩
     ·show (l.len+1 - (q+l.pitch)).toNat < (l.len+1 - q).toNat;omega
     ·exact ⟨hnx,by show _≤q+l.pitch;omega,by show b=cP l (TV l) p (m+1);rw [hps,if_neg (by omega)]⟩
    ·skip
     refine ⟨(m+1,q+l.pitch,b),?_,?_,by refine ak rfl ?_ ?_<;>repeat (first|exact ai|exact ac|refine ae rfl rfl ?_|refine ab rfl rfl rfl ?_)⟩
     ·show (l.len+1 - (q+l.pitch)).toNat < (l.len+1 - q).toNat;omega
     ·exact ⟨hnx,by show _≤q+l.pitch;omega,by show b=cP l (TV l) p (m+1);rw [hps,if_neg (by omega)]⟩
   ·have hbt:b=TT l p:=by rw [hb,TT_eq v hpl hp1];exact posS_end v (TV l) hpl (by rw [← hq0];omega)
    repeat' (first
 | ((with_reducible apply (fS (enc:=chC) (k:=p.toNat) (l:=es) b));exact rfl;exact rfl;exact inferInstance;exact hen;exact (by omega);iterate 4 exact rfl)
 | (((with_reducible apply aa);exact rfl)<;>intro hg<;>(first|(exact absurd hg (by decide))|((try simp only [qz,ge_iff_le,List.cons.injEq,and_true] at hg);first|(exact absurd trivial hg)|(exfalso;omega)|(have hT:True:=hg;clear hT hg)|skip)))
 | (refine zs ?_)
 | fail
 )
    refine ⟨(p - 1,es.set p.toNat b,ss'),?_,?_,by refine ak rfl ?_ ?_<;>repeat (first|exact ai|exact ac|refine ae rfl rfl ?_|refine ab rfl rfl rfl ?_)⟩
    ·show (p - 1+1).toNat < (p+1).toNat;omega
    ·refine ⟨by show -1≤p - 1;omega,by show p - 1≤_;omega,⟨by simp [hen],hsn',fun i h hi=>?_,hnew⟩⟩
     by_cases e:i=p.toNat
     ·subst e;rw [List.getElem_set_self,hbt,Int.toNat_of_nonneg hpl]
     ·rw [List.getElem_set_ne (by omega)]
      exact kn.e i (by simpa using h) (by have:p - 1 < (i:Int):=hi;omega)
  ·skip
   refine au (G:=Nat×Int×Ch) (fun ((m,q,b):Nat×Int×Ch)=>q=gH l p (m+1)∧p+l.kerf+1≤q∧b=cP l (TV l) p m) (fun ((m,q,b):Nat×Int×Ch)=>(l.len+1 - q).toNat) (fun ((m,q,b):Nat×Int×Ch)=>[(1,.ptr 0 0),(3,.c (LI (bi l.chip))),(4,.c (LI (bi l.dust))),(5,.vec 1 (l.len.toNat+1)),(6,.vec 2 (l.len.toNat+1)),(7,A p),(8,.ptr 3 0),(10,A q)]) (fun ((m,q,b):Nat×Int×Ch)=>[(0,some (lineB l)),(1,some (.vec 136 3 (es.flatMap chC))),(2,some (.vec 136 3 (ss'.flatMap chC))),(3,some (.cells 136 [A b.1,A b.2.1,A b.2.2]))]) 5 (0,p+l.pitch+l.kerf,-1,-1,(bi l.chip)[l.len.toNat]'(by omega) - (bi l.chip)[p.toNat]'(by omega)) ?_ (by refine ak rfl ?_ ?_<;>repeat (first|exact ai|exact ac|refine ae rfl rfl ?_|refine ab rfl rfl rfl ?_)) rfl ?_
   ·exact ⟨hat1,by show p+l.kerf+1≤p+l.pitch+l.kerf;omega,by rw [hp00,if_neg (by omega)]⟩
   rintro ⟨m,q,b⟩ hI
   try dsimp only at hI
   try dsimp only
   obtain ⟨hq0,hq1,hb⟩:=hI
   have hbb:=posS_bd v hpl hp1 (TV_bd v hpl) m
   rw [← hb] at hbb
   by_cases hql:q≤l.len
   ·have hsq:=hnew q.toNat (by omega) (by omega)
    rw [Int.toNat_of_nonneg (by omega)] at hsq
    have hsb:=stS_bd v hpl (p:=q) (by omega) hql (TV_bd v hpl) (Nat.le_refl _)
    have hsg:=fm l (TV l) q l.sizes.length
    rw [← hsq] at hsb hsg
    have g1:=cp_get (l:=l) (k:=q - l.kerf) (by omega)
    have g2:=dp_get (l:=l) (k:=q - l.kerf) (by omega)
    have g3:=dp_get (l:=l) (k:=q) (by omega)
    have g4:=cp_bd v hpl (b:=q - l.kerf) (by omega) (by omega)
    have g5:=dp_bd v (a:=q - l.kerf) (b:=q) (by omega) (by omega) hql
    have g6:=dp_le v (k:=q) hql
    rw [← g1,← hc2] at g4
    rw [← g2,← g3] at g5
    rw [← g3] at g6
    have hps:=posS_succ l (TV l) p m
    rw [← hq0,if_pos hql,gu,← hsq,← hb] at hps
    have hpd:cR l p q=(bi l.chip)[(q - l.kerf).toNat] - (bi l.chip)[p.toNat]+(bi l.dust)[q.toNat] - (bi l.dust)[(q - l.kerf).toNat]:=by
     unfold cR;rw [g1,g2,g3,hc2]
    rw [hpd] at hps
    have hnx:q+l.pitch=gH l p (m+1+1):=by rw [gn l p (m+1),← hq0]
    have hs2:(ss'[q.toNat].1=-1∧ss'[q.toNat].2.1=-1)∨0≤ss'[q.toNat].1:=by
     rcases hsg with h|h
     ·left;rw [h];exact ⟨rfl,rfl⟩
     ·right;exact h.1
    have hs3:0≤ss'[q.toNat].1→ss'[q.toNat].2.1=q:=fun h0=>by
     rcases hsg with h|h
     ·rw [h] at h0;simp at h0
     ·exact h.2.2.1
    repeat' (first
 | ((with_reducible apply (dT (zs:=[I (-1),I (-1)]) (ys:=[])));iterate 4 exact rfl)
 | (refine aL 23 ?_ ?_;(kernel_rfl);(simp only [List.take_succ_cons,List.take_zero,List.drop_succ_cons,List.drop_zero]))
 | ((first|((with_reducible apply aj);iterate 4 exact rfl)|((with_reducible apply aa);exact rfl))<;>intro hg<;>(first|(exact absurd hg (by decide))|((try simp only [qz,ge_iff_le,List.cons.injEq,and_true] at hg);first|(exact absurd trivial hg)|(exfalso;omega)|(have hT:True:=hg;clear hT hg)|skip)))
 | (refine zs ?_)
 | fail
 )
    ·skip
     refine ⟨(m+1,q+l.pitch,((ss'[q.toNat]'(by omega)).1,(ss'[q.toNat]'(by omega)).2.1,(ss'[q.toNat]'(by omega)).2.2+((bi l.chip)[(q - l.kerf).toNat]'(by omega) - (bi l.chip)[p.toNat]'(by omega)+(bi l.dust)[q.toNat]'(by omega) - (bi l.dust)[(q - l.kerf).toNat]'(by omega)))),?_,?_,by refine ak rfl ?_ ?_<;>repeat (first|exact ai|exact ac|refine ae rfl rfl ?_|refine ab rfl rfl rfl ?_)⟩
     ·show (l.len+1 - (q+l.pitch)).toNat < (l.len+1 - q).toNat;omega
     ·refine ⟨hnx,by show _≤q+l.pitch;omega,?_⟩
      show _=cP l (TV l) p (m+1)
      rw [hps,if_pos (by omega)]
      exact Prod.ext rfl (Prod.ext (hs3 (by omega)) rfl)
    ·skip
     refine ⟨(m+1,q+l.pitch,b),?_,?_,by refine ak rfl ?_ ?_<;>repeat (first|exact ai|exact ac|refine ae rfl rfl ?_|refine ab rfl rfl rfl ?_)⟩
     ·show (l.len+1 - (q+l.pitch)).toNat < (l.len+1 - q).toNat;omega
     ·exact ⟨hnx,by show _≤q+l.pitch;omega,by show b=cP l (TV l) p (m+1);rw [hps,if_neg (by omega)]⟩
    ·skip
     refine ⟨(m+1,q+l.pitch,b),?_,?_,by refine ak rfl ?_ ?_<;>repeat (first|exact ai|exact ac|refine ae rfl rfl ?_|refine ab rfl rfl rfl ?_)⟩
     ·show (l.len+1 - (q+l.pitch)).toNat < (l.len+1 - q).toNat;omega
     ·exact ⟨hnx,by show _≤q+l.pitch;omega,by show b=cP l (TV l) p (m+1);rw [hps,if_neg (by omega)]⟩
   ·have hbt:b=TT l p:=by rw [hb,TT_eq v hpl hp1];exact posS_end v (TV l) hpl (by rw [← hq0];omega)
    repeat' (first
 | ((with_reducible apply (fS (enc:=chC) (k:=p.toNat) (l:=es) b));exact rfl;exact rfl;exact inferInstance;exact hen;exact (by omega);iterate 4 exact rfl)
 | (((with_reducible apply aa);exact rfl)<;>intro hg<;>(first|(exact absurd hg (by decide))|((try simp only [qz,ge_iff_le,List.cons.injEq,and_true] at hg);first|(exact absurd trivial hg)|(exfalso;omega)|(have hT:True:=hg;clear hT hg)|skip)))
 | (refine zs ?_)
 | fail
 )
    refine ⟨(p - 1,es.set p.toNat b,ss'),?_,?_,by refine ak rfl ?_ ?_<;>repeat (first|exact ai|exact ac|refine ae rfl rfl ?_|refine ab rfl rfl rfl ?_)⟩
    ·show (p - 1+1).toNat < (p+1).toNat;omega
    ·refine ⟨by show -1≤p - 1;omega,by show p - 1≤_;omega,⟨by simp [hen],hsn',fun i h hi=>?_,hnew⟩⟩
     by_cases e:i=p.toNat
     ·subst e;rw [List.getElem_set_self,hbt,Int.toNat_of_nonneg hpl]
     ·rw [List.getElem_set_ne (by omega)]
      exact kn.e i (by simpa using h) (by have:p - 1 < (i:Int):=hi;omega)
  ·skip
   refine au (G:=Nat×Int×Ch) (fun ((m,q,b):Nat×Int×Ch)=>q=gH l p (m+1)∧p+l.kerf+1≤q∧b=cP l (TV l) p m) (fun ((m,q,b):Nat×Int×Ch)=>(l.len+1 - q).toNat) (fun ((m,q,b):Nat×Int×Ch)=>[(1,.ptr 0 0),(3,.c (LI (bi l.chip))),(4,.c (LI (bi l.dust))),(5,.vec 1 (l.len.toNat+1)),(6,.vec 2 (l.len.toNat+1)),(7,A p),(8,.ptr 3 0),(10,A q)]) (fun ((m,q,b):Nat×Int×Ch)=>[(0,some (lineB l)),(1,some (.vec 136 3 (es.flatMap chC))),(2,some (.vec 136 3 (ss'.flatMap chC))),(3,some (.cells 136 [A b.1,A b.2.1,A b.2.2]))]) 5 (0,p+l.pitch+l.kerf,-1,-1,(bi l.chip)[l.len.toNat]'(by omega) - (bi l.chip)[p.toNat]'(by omega)) ?_ (by refine ak rfl ?_ ?_<;>repeat (first|exact ai|exact ac|refine ae rfl rfl ?_|refine ab rfl rfl rfl ?_)) rfl ?_
   ·exact ⟨hat1,by show p+l.kerf+1≤p+l.pitch+l.kerf;omega,by rw [hp00,if_neg (by omega)]⟩
   rintro ⟨m,q,b⟩ hI
   try dsimp only at hI
   try dsimp only
   obtain ⟨hq0,hq1,hb⟩:=hI
   have hbb:=posS_bd v hpl hp1 (TV_bd v hpl) m
   rw [← hb] at hbb
   by_cases hql:q≤l.len
   ·have hsq:=hnew q.toNat (by omega) (by omega)
    rw [Int.toNat_of_nonneg (by omega)] at hsq
    have hsb:=stS_bd v hpl (p:=q) (by omega) hql (TV_bd v hpl) (Nat.le_refl _)
    have hsg:=fm l (TV l) q l.sizes.length
    rw [← hsq] at hsb hsg
    have g1:=cp_get (l:=l) (k:=q - l.kerf) (by omega)
    have g2:=dp_get (l:=l) (k:=q - l.kerf) (by omega)
    have g3:=dp_get (l:=l) (k:=q) (by omega)
    have g4:=cp_bd v hpl (b:=q - l.kerf) (by omega) (by omega)
    have g5:=dp_bd v (a:=q - l.kerf) (b:=q) (by omega) (by omega) hql
    have g6:=dp_le v (k:=q) hql
    rw [← g1,← hc2] at g4
    rw [← g2,← g3] at g5
    rw [← g3] at g6
    have hps:=posS_succ l (TV l) p m
    rw [← hq0,if_pos hql,gu,← hsq,← hb] at hps
    have hpd:cR l p q=(bi l.chip)[(q - l.kerf).toNat] - (bi l.chip)[p.toNat]+(bi l.dust)[q.toNat] - (bi l.dust)[(q - l.kerf).toNat]:=by
     unfold cR;rw [g1,g2,g3,hc2]
    rw [hpd] at hps
    have hnx:q+l.pitch=gH l p (m+1+1):=by rw [gn l p (m+1),← hq0]
    have hs2:(ss'[q.toNat].1=-1∧ss'[q.toNat].2.1=-1)∨0≤ss'[q.toNat].1:=by
     rcases hsg with h|h
     ·left;rw [h];exact ⟨rfl,rfl⟩
     ·right;exact h.1
    have hs3:0≤ss'[q.toNat].1→ss'[q.toNat].2.1=q:=fun h0=>by
     rcases hsg with h|h
     ·rw [h] at h0;simp at h0
     ·exact h.2.2.1
    repeat' (first
 | ((with_reducible apply (dT (zs:=[I (-1),I (-1)]) (ys:=[])));iterate 4 exact rfl)
 | (refine aL 23 ?_ ?_;(kernel_rfl);(simp only [List.take_succ_cons,List.take_zero,List.drop_succ_cons,List.drop_zero]))
 | ((first|((with_reducible apply aj);iterate 4 exact rfl)|((with_reducible apply aa);exact rfl))<;>intro hg<;>(first|(exact absurd hg (by decide))|((try simp only [qz,ge_iff_le,List.cons.injEq,and_true] at hg);first|(exact absurd trivial hg)|(exfalso;omega)|(have hT:True:=hg;clear hT hg)|skip)))
 | (refine zs ?_)
 | fail
 )
    ·skip
     refine ⟨(m+1,q+l.pitch,((ss'[q.toNat]'(by omega)).1,(ss'[q.toNat]'(by omega)).2.1,(ss'[q.toNat]'(by omega)).2.2+((bi l.chip)[(q - l.kerf).toNat]'(by omega) - (bi l.chip)[p.toNat]'(by omega)+(bi l.dust)[q.toNat]'(by omega) - (bi l.dust)[(q - l.kerf).toNat]'(by omega)))),?_,?_,by refine ak rfl ?_ ?_<;>repeat (first|exact ai|exact ac|refine ae rfl rfl ?_|refine ab rfl rfl rfl ?_)⟩
     ·show (l.len+1 - (q+l.pitch)).toNat < (l.len+1 - q).toNat;omega
     ·refine ⟨hnx,by show _≤q+l.pitch;omega,?_⟩
      show _=cP l (TV l) p (m+1)
      rw [hps,if_pos (by omega)]
      exact Prod.ext rfl (Prod.ext (hs3 (by omega)) rfl)
    ·skip
     refine ⟨(m+1,q+l.pitch,b),?_,?_,by refine ak rfl ?_ ?_<;>repeat (first|exact ai|exact ac|refine ae rfl rfl ?_|refine ab rfl rfl rfl ?_)⟩
     ·show (l.len+1 - (q+l.pitch)).toNat < (l.len+1 - q).toNat;omega
     ·exact ⟨hnx,by show _≤q+l.pitch;omega,by show b=cP l (TV l) p (m+1);rw [hps,if_neg (by omega)]⟩
    ·skip
     refine ⟨(m+1,q+l.pitch,b),?_,?_,by refine ak rfl ?_ ?_<;>repeat (first|exact ai|exact ac|refine ae rfl rfl ?_|refine ab rfl rfl rfl ?_)⟩
     ·show (l.len+1 - (q+l.pitch)).toNat < (l.len+1 - q).toNat;omega
     ·exact ⟨hnx,by show _≤q+l.pitch;omega,by show b=cP l (TV l) p (m+1);rw [hps,if_neg (by omega)]⟩
   ·have hbt:b=TT l p:=by rw [hb,TT_eq v hpl hp1];exact posS_end v (TV l) hpl (by rw [← hq0];omega)
    repeat' (first
 | ((with_reducible apply (fS (enc:=chC) (k:=p.toNat) (l:=es) b));exact rfl;exact rfl;exact inferInstance;exact hen;exact (by omega);iterate 4 exact rfl)
 | (((with_reducible apply aa);exact rfl)<;>intro hg<;>(first|(exact absurd hg (by decide))|((try simp only [qz,ge_iff_le,List.cons.injEq,and_true] at hg);first|(exact absurd trivial hg)|(exfalso;omega)|(have hT:True:=hg;clear hT hg)|skip)))
 | (refine zs ?_)
 | fail
 )
    refine ⟨(p - 1,es.set p.toNat b,ss'),?_,?_,by refine ak rfl ?_ ?_<;>repeat (first|exact ai|exact ac|refine ae rfl rfl ?_|refine ab rfl rfl rfl ?_)⟩
    ·show (p - 1+1).toNat < (p+1).toNat;omega
    ·refine ⟨by show -1≤p - 1;omega,by show p - 1≤_;omega,⟨by simp [hen],hsn',fun i h hi=>?_,hnew⟩⟩
     by_cases e:i=p.toNat
     ·subst e;rw [List.getElem_set_self,hbt,Int.toNat_of_nonneg hpl]
     ·rw [List.getElem_set_ne (by omega)]
      exact kn.e i (by simpa using h) (by have:p - 1 < (i:Int):=hi;omega)
 ·skip
  repeat' (first
 | (((with_reducible apply aa);exact rfl)<;>intro hg<;>(first|(exact absurd hg (by decide))|((try simp only [qz,ge_iff_le,List.cons.injEq,and_true] at hg);first|(exact absurd trivial hg)|(exfalso;omega)|(have hT:True:=hg;clear hT hg)|skip)))
 | (refine zs ?_)
 | fail
 )
  have:es=gr l:=tabS_of kn.en (fun i hi=>kn.e i hi (by omega))
  rw [← this]
  exact cL (.tmp rfl (bx rfl (by rw [av EncL.len,kn.en])))
end Go.Proofs.YtdndfncpglfdeaaGreatDoor.Cu

namespace Go.Proofs.YtdndfncpglfdeaaGreatDoor.Cu
set_option linter.unusedVariables false
set_option linter.unusedSimpArgs false
open Go.RowKit Go.Proofs.YtdndfncpglfdeaaGreatDoor.Ev
def bC (l:Line):Nat→Int→List bI
 | 0,_=>[]
 | n+1,e=>if e < 0∨(TT l e).1 < 0 then [] else ((TT l e).1,(TT l e).2.1)::bC l n (aA l ((TT l e).2.1+aR l (TT l e).1))
noncomputable def bestS (l:Line):List bI×Int×Int:=if chk l≠0 then ([],0,chk l) else (bC l (l.len.toNat+2) 0,TV l 0,0)
def bestC (r:List bI×Int×Int):CV:=.tup [LP r.1,I r.2.1,I r.2.2]
theorem dt {l:Line} {n:Nat} {e:Int} (h:e < 0∨(TT l e).1 < 0):bC l n e=[]:=by
 cases n with
 | zero=>rfl
 | succ n=>show (if _ then _ else _)=_;rw [if_pos h]
theorem gZ {l:Line} {n:Nat} {e:Int} (h0:0≤e) (h:0≤(TT l e).1):bC l (n+1) e=((TT l e).1,(TT l e).2.1)::bC l n (aA l ((TT l e).2.1+aR l (TT l e).1)):=by
 show (if _ then _ else _)=_;rw [if_neg (by omega)]
theorem TT_sgn {l:Line} (v:Valid l) {e:Int} (h0:0≤e) (h1:e≤l.len):((TT l e).1=-1∧(TT l e).2.1=-1)∨(0≤(TT l e).1∧(TT l e).1 < l.sizes.length∧e≤(TT l e).2.1∧OkP l (TT l e).1.toNat (TT l e).2.1):=by
 rw [TT_eq v h0 h1]
 unfold eJ
 rcases posS_sgn l (TV l) e l.len.toNat with h|⟨q,hq,h2,h3,h4,h5⟩
 ·exact .inl h
 ·refine .inr ⟨h2,h3,?_,by rw [h4];exact h5⟩
  rw [h4]
  rcases hq with rfl|⟨j,hj,rfl,_⟩
  ·exact Int.le_refl _
  ·have:=atP_ge v e j
   have:=v.kerf
   omega
theorem best_ok {l:Line} (h:chk l=0):bestS l=(bC l (l.len.toNat+2) 0,TV l 0,0):=by unfold bestS;rw [if_neg (fun hh=>hh h)]
theorem best_err {l:Line} (h:¬ chk l=0):bestS l=([],0,chk l):=by unfold bestS;rw [if_pos h]
theorem OkP_sz {l:Line} {k:Int} {p:Int} (h0:0≤k) (h:OkP l k.toNat p):p+aR l k≤l.len:=by
 have:=h.1;rw [Int.toNat_of_nonneg h0] at this;exact this
theorem best_con (l:Line):bm Tryz.prog G 22 [ef l] (bestC (bestS l)):=by
 refine ao Tryz.func22 rfl (by kernel_rfl) rfl ?_
 simp only [Tryz.ntmps22,Tryz.results22,am,ofC,aZ,List.map,ef,lineL]
 repeat' (first
 | ((with_reducible apply ah);exact rfl;exact rfl;exact iq l;exact rfl;exact rfl)
 | (((with_reducible apply aa);exact rfl)<;>intro hg<;>(first|(exact absurd hg (by decide))|((try simp only [qz,ge_iff_le,List.cons.injEq,and_true] at hg);first|(exact absurd trivial hg)|(exfalso;omega)|(have hT:True:=hg;clear hT hg)|skip)))
 | (refine zs ?_)
 | fail
 )
 ·rw [best_err hg]
  exact bJ (.cons (.tmp rfl bP) (.cons (.tmp rfl ap) (.cons (.tmp rfl ap) .nil)))
 have v:=valid_of hg
 have hl:=v.len
 have hlk:=v.kerf
 have hlt:=tabS_len l
 have h0:TV l 0=((gr l)[(0:Int).toNat]'(by rw [hlt];omega)).2.2:=by rw [tabS_get];rfl
 rw [best_ok hg,h0]
 repeat' (first
 | ((with_reducible apply ah);exact rfl;exact rfl;exact choices_con l v;exact rfl;exact rfl)
 | (refine zs ?_)
 | fail
 )
 refine bo 7 78 2 rfl rfl ?_
 refine au (G:=Nat×Int×Nat×List bI) (fun ((n,ed,k,out):Nat×Int×Nat×List bI)=>out.length=k∧-1≤ed∧ed≤l.len∧(0≤ed→l.len - ed+1≤n)∧out.length+n≤l.len.toNat+2∧bC l (l.len.toNat+2) 0=out++bC l n ed) (fun ((n,ed,k,out):Nat×Int×Nat×List bI)=>n) (fun ((n,ed,k,out):Nat×Int×Nat×List bI)=>[(1,.ptr 0 0),(6,.c (LC (gr l))),(7,.vec 1 k),(8,A ed)]) (fun ((n,ed,k,out):Nat×Int×Nat×List bI)=>[(0,some (lineB l)),(1,some (.vec 78 2 (out.flatMap pcC)))]) 2 (l.len.toNat+2,0,0,[]) ?_ (by refine ak rfl ?_ ?_<;>repeat (first|exact ai|exact ac|refine ae rfl rfl ?_|refine ab rfl rfl rfl ?_)) rfl ?_
 ·exact ⟨rfl,by decide,hl.1,fun _=>by omega,by simp,by simp⟩
 rintro ⟨n,ed,k,out⟩ hI
 try dsimp only at hI
 try dsimp only
 obtain ⟨hk,he1,he2,hn,ho,hch⟩:=hI
 by_cases he0:0≤ed
 ·have htg:=tabS_get l ed.toNat (by omega)
  rw [Int.toNat_of_nonneg he0] at htg
  have hs:=TT_sgn v he0 he2
  rw [← htg] at hs
  rcases hs with hs|⟨s1,s2,s3,s4⟩
  ·skip
   repeat' (first
 | ((with_reducible apply (dT (zs:=[I (-1),I (-1)]) (ys:=[])));iterate 4 exact rfl)
 | (((with_reducible apply aa);exact rfl)<;>intro hg<;>(first|(exact absurd hg (by decide))|((try simp only [qz,ge_iff_le,List.cons.injEq,and_true] at hg);first|(exact absurd trivial hg)|(exfalso;omega)|(have hT:True:=hg;clear hT hg)|skip)))
 | (refine zs ?_)
 | fail
 )
   rw [hch,dt (Or.inr (by rw [← htg];omega)),List.append_nil]
   exact bJ (.cons (.tmp rfl (bx rfl (by rw [av EncL.len,hk]))) (.cons (.tmp rfl ap) (.cons (.tmp rfl ap) .nil)))
  ·have s5:=OkP_sz s1 s4
   obtain ⟨m,rfl⟩:∃ m,n=m+1:=⟨n - 1,by omega⟩
   have hgo:=gZ (l:=l) (n:=m) he0 (by rw [← htg];exact s1)
   rw [← htg] at hgo
   have hk2:(gr l)[ed.toNat].1.toNat < l.sizes.length:=by omega
   have hsz:aR l (gr l)[ed.toNat].1=l.sizes[(gr l)[ed.toNat].1.toNat]:=by
    conv=>lhs;rw [show (gr l)[ed.toNat].1=(((gr l)[ed.toNat].1.toNat:Nat):Int) by omega]
    exact szOf_nat hk2
   rw [hsz] at s5 hgo
   have hz:=v.size _ hk2
   have hb:=fh v (q:=(gr l)[ed.toNat].2.1+l.sizes[(gr l)[ed.toNat].1.toNat]) (by omega) s5
   repeat' (first
 | ((with_reducible apply (dT (zs:=[I (-1),I (-1)]) (ys:=[])));iterate 4 exact rfl)
 | ((with_reducible apply (dq (enc:=pcC) (x0:=((gr l)[ed.toNat].1,(gr l)[ed.toNat].2.1))));exact rfl;exact rfl;exact inferInstance;exact hk;(iterate 3 exact rfl);exact (by omega);exact (by omega);exact rfl)
 | ((with_reducible apply ah);exact rfl;exact rfl;exact behind_con l _ (by unfold aQ;omega);exact rfl;exact rfl)
 | (refine aL 10 ?_ ?_;(kernel_rfl);(simp only [List.take_succ_cons,List.take_zero,List.drop_succ_cons,List.drop_zero]))
 | (((with_reducible apply aa);exact rfl)<;>intro hg<;>(first|(exact absurd hg (by decide))|((try simp only [qz,ge_iff_le,List.cons.injEq,and_true] at hg);first|(exact absurd trivial hg)|(exfalso;omega)|(have hT:True:=hg;clear hT hg)|skip)))
 | (refine zs ?_)
 | fail
 )
   refine ⟨(m,aA l ((gr l)[ed.toNat].2.1+l.sizes[(gr l)[ed.toNat].1.toNat]),k+1,out++[((gr l)[ed.toNat].1,(gr l)[ed.toNat].2.1)]),?_,?_,by refine ak rfl ?_ ?_<;>repeat (first|exact ai|exact ac|refine ae rfl rfl ?_|refine ab rfl rfl rfl ?_)⟩
   ·show m < m+1;omega
   ·dsimp only
    refine ⟨by simp [hk],by omega,by omega,fun h=>by omega,by simp;omega,?_⟩
    rw [hch,hgo,List.append_assoc];rfl
 ·skip
  repeat' (first
 | (((with_reducible apply aa);exact rfl)<;>intro hg<;>(first|(exact absurd hg (by decide))|((try simp only [qz,ge_iff_le,List.cons.injEq,and_true] at hg);first|(exact absurd trivial hg)|(exfalso;omega)|(have hT:True:=hg;clear hT hg)|skip)))
 | (refine zs ?_)
 | fail
 )
  rw [hch,dt (Or.inl (by omega)),List.append_nil]
  exact bJ (.cons (.tmp rfl (bx rfl (by rw [av EncL.len,hk]))) (.cons (.tmp rfl ap) (.cons (.tmp rfl ap) .nil)))
end Go.Proofs.YtdndfncpglfdeaaGreatDoor.Cu

namespace Go.Proofs.YtdndfncpglfdeaaGreatDoor.Cu
set_option linter.unusedVariables false
set_option linter.unusedSimpArgs false
open Go.RowKit Go.Proofs.YtdndfncpglfdeaaGreatDoor.Ev
def PV (l:Line):Int→List bI→Int
 | e,[]=>if 0≤e then cp l l.len - cp l e else 0
 | e,x::xs=>(if e < x.2 then cR l e x.2 else 0)+gOf l x.1 x.2+(if 0≤aA l (x.2+aR l x.1) then dp l (aA l (x.2+aR l x.1)) - dp l (x.2+aR l x.1) else 0)+PV l (aA l (x.2+aR l x.1)) xs
def OKs (l:Line):Int→List bI→Prop
 | _,[]=>True
 | e,x::xs=>perm l e x=0∧OKs l (aA l (x.2+aR l x.1)) xs
theorem fg {l:Line} (v:Valid l) {e:Int} {x:bI} (h:perm l e x=0):1≤aR l x.1:=by
 obtain ⟨q1,q2,_⟩:=gI (l:=l) (e:=e) (s:=x.1) (p:=x.2) h
 obtain ⟨k,hk1,hk2,hk3⟩:=szOf_eq (l:=l) (s:=x.1) q1 q2
 rw [hk3];exact (v.size k hk2).1
def Cand (l:Line) (e:Int) (i:Nat) (q:Int):Prop:=i < l.sizes.length∧OkP l i q∧(q=e∨∃ j:Nat,1≤j∧q=gH l e j∧q≤l.len)
def cv (l:Line) (V:Int→Int) (e:Int) (i:Nat) (q:Int):Int:=(if e < q then cR l e q else 0)+cY l V i q
theorem atP_lt {l:Line} (v:Valid l) (e:Int) {i j:Nat} (h:i < j):gH l e i < gH l e j:=by
 obtain ⟨k,rfl⟩:∃ k,j=i+1+k:=⟨j - (i+1),by omega⟩
 have hp:=v.pitch
 clear h
 induction k with
 | zero=>rw [Nat.add_zero,gn];omega
 | succ k ih=>rw [show i+1+(k+1)=(i+1+k)+1 by omega,gn];omega
theorem cand_of {l:Line} (v:Valid l) {e:Int} {x:bI} (h:perm l e x=0):0≤x.1∧Cand l e x.1.toNat x.2:=by
 obtain ⟨q1,q2,q3,q4,q5,q6,q7⟩:=gI (l:=l) (e:=e) (s:=x.1) (p:=x.2) h
 have hs:=fg v h
 refine ⟨q1,by omega,⟨by rw [Int.toNat_of_nonneg q1];omega,by rw [Int.toNat_of_nonneg q1];exact q7⟩,?_⟩
 rcases q6 with q6|⟨q6,q8⟩
 ·exact .inl q6
 ·obtain ⟨c,hc⟩:=Int.dvd_of_tmod_eq_zero q8
  have hp:=v.pitch
  have hc1:1≤c:=by
   rcases Int.lt_or_le c 1 with hn|hn
   ·have:l.pitch * c≤l.pitch * 0:=Int.mul_le_mul_of_nonneg_left (by omega) (by omega)
    omega
   ·exact hn
  refine .inr ⟨c.toNat,by omega,?_,by omega⟩
  unfold gH
  rw [Int.toNat_of_nonneg (by omega),Int.mul_comm];omega
theorem perm_of {l:Line} (v:Valid l) {e:Int} (he:0≤e) {i:Nat} {q:Int} (h:Cand l e i q):perm l e ((i:Int),q)=0:=by
 obtain ⟨h1,⟨h2,h3⟩,h4⟩:=h
 have hp:=v.pitch
 have hk:=v.kerf
 have hq:e≤q∧(q=e∨(l.pitch≤q - l.kerf - e∧(q - l.kerf - e).tmod l.pitch=0)):=by
  rcases h4 with h4|⟨j,hj,h4,h5⟩
  ·exact ⟨by omega,.inl h4⟩
  ·have e1:q - l.kerf - e=j * l.pitch:=by rw [h4];unfold gH;omega
   have e2:l.pitch≤j * l.pitch:=by
    have:1 * l.pitch≤(j:Int) * l.pitch:=Int.mul_le_mul_of_nonneg_right (by omega) (by omega)
    omega
   refine ⟨by omega,.inr ⟨by omega,by rw [e1];exact Int.mul_tmod_left _ _⟩⟩
 unfold perm
 dsimp only
 rw [if_neg (by omega),if_neg (by omega),if_neg ?_,if_neg (by omega)]
 generalize (q - l.kerf - e).tmod l.pitch=tm at *
 omega
structure GrpI (l:Line) (V:Int→Int) (paid p:Int) (k:Nat) (b r:Ch):Prop where
 ge:b.2.2≤r.2.2
 all:∀ i,i < k→OkP l i p→paid+cY l V i p≤r.2.2
 one:r=b∨∃ i,i < k∧OkP l i p∧r=((i:Int),p,paid+cY l V i p)∧b.2.2 < r.2.2∧∀ i',i' < i→OkP l i' p→paid+cY l V i' p < r.2.2
theorem grp_inv (l:Line) (V:Int→Int) (paid p:Int) (b:Ch):∀ k,GrpI l V paid p k b (grp l V paid p k b)
 | 0=>⟨Int.le_refl _,fun i hi=>by omega,.inl rfl⟩
 | k+1=>by
  have ih:=grp_inv l V paid p b k
  unfold grp
  generalize grp l V paid p k b=r at *
  have h1:=ih.ge
  split
  ·rename_i h
   refine ⟨by dsimp only;omega,fun i hi ho=>?_,.inr ⟨k,by omega,h.1,rfl,by dsimp only;omega,fun i' hi' ho'=>?_⟩⟩
   ·dsimp only
    by_cases hik:i=k
    ·subst hik;omega
    ·have:=ih.all i (by omega) ho;omega
   ·dsimp only
    have:=ih.all i' hi' ho';omega
  ·rename_i h
   refine ⟨h1,fun i hi ho=>?_,?_⟩
   ·by_cases hik:i=k
    ·subst hik
     rcases Int.lt_or_le r.2.2 (paid+cY l V i p) with hc|hc
     ·exact absurd ⟨ho,hc⟩ h
     ·exact hc
    ·exact ih.all i (by omega) ho
   ·rcases ih.one with ho|⟨i,hi,ho⟩
    ·exact .inl ho
    ·exact .inr ⟨i,by omega,ho⟩
def At (l:Line) (e:Int) (m:Nat) (q:Int):Prop:=q=e∨∃ j:Nat,1≤j∧j≤m∧q=gH l e j∧q≤l.len
structure PosI (l:Line) (V:Int→Int) (e:Int) (m:Nat) (r:Ch):Prop where
 ge:cp l l.len - cp l e≤r.2.2
 all:∀ i q,i < l.sizes.length→OkP l i q→At l e m q→cv l V e i q≤r.2.2
 one:r=(-1,-1,cp l l.len - cp l e)∨∃ (i:Nat) (q:Int),r=((i:Int),q,cv l V e i q)∧i < l.sizes.length∧OkP l i q∧At l e m q∧cp l l.len - cp l e < r.2.2∧∀ (i':Nat) (q':Int),Cand l e i' q'→(q' < q∨q'=q∧i' < i)→cv l V e i' q' < r.2.2
theorem At.succ {l:Line} {e:Int} {m:Nat} {q:Int} (h:At l e m q):At l e (m+1) q:=by
 rcases h with h|⟨j,h1,h2,h3⟩
 ·exact .inl h
 ·exact .inr ⟨j,h1,by omega,h3⟩
theorem pos_inv {l:Line} (v:Valid l) (V:Int→Int) (e:Int):∀ m,PosI l V e m (cP l V e m)
 | 0=>by
  have hi:=grp_inv l V 0 e (-1,-1,cp l l.len - cp l e) l.sizes.length
  unfold cP
  generalize grp l V 0 e l.sizes.length (-1,-1,cp l l.len - cp l e)=r at *
  have hcv:∀ i,cv l V e i e=0+cY l V i e:=fun i=>by unfold cv;rw [if_neg (by omega)]
  refine ⟨hi.ge,fun i q h1 h2 h3=>?_,?_⟩
  ·rcases h3 with rfl|⟨j,h3,h4,_⟩
   ·rw [hcv];exact hi.all i h1 h2
   ·omega
  ·rcases hi.one with h|⟨i,h1,h2,h3,h4,h5⟩
   ·exact .inl h
   ·refine .inr ⟨i,e,by rw [hcv];exact h3,h1,h2,.inl rfl,h4,fun i' q' hc ho=>?_⟩
    have hq:e≤q':=by
     rcases hc.2.2 with h|⟨j,_,h,_⟩
     ·omega
     ·have:=atP_ge v e j;have:=v.kerf;omega
    rcases ho with ho|⟨rfl,ho⟩
    ·omega
    ·rw [hcv];exact h5 i' ho hc.2.1
 | m+1=>by
  have ih:=pos_inv v V e m
  unfold cP
  split
  ·rename_i hle
   have hgt:e < gH l e (m+1):=by have:=atP_ge v e (m+1);have:=v.kerf;omega
   have hi:=grp_inv l V (cR l e (gH l e (m+1))) (gH l e (m+1)) (cP l V e m) l.sizes.length
   generalize cP l V e m=b at *
   generalize hr:grp l V (cR l e (gH l e (m+1))) (gH l e (m+1)) l.sizes.length b=r at *
   have hcv:∀ i,cv l V e i (gH l e (m+1))=cR l e (gH l e (m+1))+cY l V i (gH l e (m+1)):=fun i=>by unfold cv;rw [if_pos hgt]
   have g1:=ih.ge
   have g2:=hi.ge
   refine ⟨by omega,fun i q h1 h2 h3=>?_,?_⟩
   ·rcases h3 with h3|⟨j,h3,h4,h5,h6⟩
    ·have:=ih.all i q h1 h2 (.inl h3);omega
    ·by_cases hj:j=m+1
     ·subst hj;rw [h5,hcv];rw [h5] at h2;exact hi.all i h1 h2
     ·have:=ih.all i q h1 h2 (.inr ⟨j,h3,by omega,h5,h6⟩);omega
   ·rcases hi.one with h|⟨i,h1,h2,h3,h4,h5⟩
    ·subst h
     rcases ih.one with h|⟨i,q,k1,k2,k3,k4,k5⟩
     ·exact .inl h
     ·exact .inr ⟨i,q,k1,k2,k3,k4.succ,k5⟩
    ·refine .inr ⟨i,gH l e (m+1),by rw [hcv];exact h3,h1,h2,.inr ⟨m+1,by omega,Nat.le_refl _,rfl,hle⟩,by omega,fun i' q' hc ho=>?_⟩
     rcases ho with ho|⟨rfl,ho⟩
     ·have hat:At l e m q':=by
       rcases hc.2.2 with h|⟨j,k1,k2,k3⟩
       ·exact .inl h
       ·refine .inr ⟨j,k1,?_,k2,k3⟩
        rcases Nat.lt_or_ge j (m+1) with hj|hj
        ·omega
        ·exfalso
         rcases Nat.lt_or_ge (m+1) j with hj2|hj2
         ·have:=atP_lt v e hj2;omega
         ·rw [show j=m+1 by omega] at k2;omega
      have:=ih.all i' q' hc.1 hc.2.1 hat
      omega
     ·rw [hcv];exact h5 i' ho hc.2.1
  ·rename_i hle
   refine ⟨ih.ge,fun i q h1 h2 h3=>?_,?_⟩
   ·rcases h3 with h3|⟨j,h3,h4,h5,h6⟩
    ·exact ih.all i q h1 h2 (.inl h3)
    ·by_cases hj:j=m+1
     ·subst hj;omega
     ·exact ih.all i q h1 h2 (.inr ⟨j,h3,by omega,h5,h6⟩)
   ·rcases ih.one with h|⟨i,q,k1,k2,k3,k4,k5⟩
    ·exact .inl h
    ·exact .inr ⟨i,q,k1,k2,k3,k4.succ,k5⟩
theorem tt_inv {l:Line} (v:Valid l) {e:Int} (h0:0≤e) (h1:e≤l.len):PosI l (TV l) e l.len.toNat (TT l e):=by
 rw [TT_eq v h0 h1];exact pos_inv v _ e _
theorem at_of {l:Line} (v:Valid l) {e:Int} (h0:0≤e) {i:Nat} {q:Int} (h:Cand l e i q):At l e l.len.toNat q:=by
 rcases h.2.2 with h|⟨j,k1,k2,k3⟩
 ·exact .inl h
 ·have:=atP_ge v e j
  have:=v.kerf
  exact .inr ⟨j,k1,by omega,k2,k3⟩
theorem cand_at {l:Line} {e:Int} {i:Nat} {q:Int} {m:Nat} (h1:i < l.sizes.length) (h2:OkP l i q) (h:At l e m q):Cand l e i q:=by
 refine ⟨h1,h2,?_⟩
 rcases h with h|⟨j,k1,_,k2⟩
 ·exact .inl h
 ·exact .inr ⟨j,k1,k2⟩
def befS:List bI→List bI→Bool
 | [],[]=>false
 | [],_::_=>true
 | _::_,[]=>false
 | x::xs,y::ys=>if x=y then befS xs ys else decide (x.2 < y.2∨(x.2=y.2∧x.1 < y.1))
theorem PV_cons {l:Line} {e:Int} {x:bI} (h0:0≤x.1) (V:Int→Int) (xs:List bI) (hV:0≤aA l (x.2+aR l x.1)→PV l (aA l (x.2+aR l x.1)) xs=V (aA l (x.2+aR l x.1))) (hn:aA l (x.2+aR l x.1) < 0→xs=[]):PV l e (x::xs)=cv l V e x.1.toNat x.2:=by
 unfold PV cv cY
 rw [Int.toNat_of_nonneg h0]
 by_cases hb:0≤aA l (x.2+aR l x.1)
 ·rw [if_pos hb,if_pos hb,hV hb];omega
 ·rw [if_neg hb,if_neg hb,hn (by omega)]
  unfold PV
  rw [if_neg hb];omega
theorem oks_neg {l:Line} {e:Int} (he:e < 0):∀ {p:List bI},OKs l e p→p=[]
 | [],_=>rfl
 | x::p,h=>by
  have:=(gI (l:=l) (e:=e) (s:=x.1) (p:=x.2) h.1).2.2.2.2.1
  omega
theorem opt {l:Line} (v:Valid l):∀ (p:List bI) (e:Int) (n:Nat),0≤e→e≤l.len→l.len - e+1≤n→OKs l e p→PV l e p≤TV l e∧(PV l e p=TV l e→befS p (bC l n e)=false)
 | [],e,n,h0,h1,hn,_=>by
  have hi:=tt_inv v h0 h1
  have hpv:PV l e []=cp l l.len - cp l e:=by unfold PV;rw [if_pos h0]
  rw [hpv]
  refine ⟨hi.ge,fun he=>?_⟩
  rcases hi.one with h|⟨i,q,_,_,_,_,h,_⟩
  ·rw [dt (.inr (by rw [h];exact (by decide:(-1:Int) < 0)))];rfl
  ·unfold TV at he;omega
 | x::xs,e,n,h0,h1,hn,⟨hp,ho⟩=>by
  have hi:=tt_inv v h0 h1
  obtain ⟨hx0,hc⟩:=cand_of v hp
  have hall:=hi.all _ _ hc.1 hc.2.1 (at_of v h0 hc)
  have hs:=fg v hp
  obtain ⟨q1,q2,q3,q4,q5,q6,q7⟩:=gI (l:=l) (e:=e) (s:=x.1) (p:=x.2) hp
  have hk:=v.kerf
  have hpi:=v.pitch
  have hex:e≤x.2:=by generalize (x.2 - l.kerf - e).tmod l.pitch=tm at *;omega
  have hb:=fh v (q:=x.2+aR l x.1) (by omega) (by omega)
  have hsum:PV l e (x::xs)=(if e < x.2 then cR l e x.2 else 0)+gOf l x.1 x.2+(if 0≤aA l (x.2+aR l x.1) then dp l (aA l (x.2+aR l x.1)) - dp l (x.2+aR l x.1) else 0)+PV l (aA l (x.2+aR l x.1)) xs:=rfl
  have hcv:cv l (TV l) e x.1.toNat x.2=(if e < x.2 then cR l e x.2 else 0)+gOf l x.1 x.2+(if 0≤aA l (x.2+aR l x.1) then dp l (aA l (x.2+aR l x.1)) - dp l (x.2+aR l x.1) else 0)+(if 0≤aA l (x.2+aR l x.1) then TV l (aA l (x.2+aR l x.1)) else 0):=by
   unfold cv cY
   rw [Int.toNat_of_nonneg hx0]
   split<;>split<;>omega
  have hcvT:cv l (TV l) e x.1.toNat x.2≤TV l e:=hall
  obtain ⟨m,rfl⟩:∃ m,n=m+1:=⟨n - 1,by omega⟩
  have key:PV l (aA l (x.2+aR l x.1)) xs≤(if 0≤aA l (x.2+aR l x.1) then TV l (aA l (x.2+aR l x.1)) else 0)∧(PV l (aA l (x.2+aR l x.1)) xs=(if 0≤aA l (x.2+aR l x.1) then TV l (aA l (x.2+aR l x.1)) else 0)→befS xs (bC l m (aA l (x.2+aR l x.1)))=false):=by
   rcases hb with ⟨_,hb⟩|⟨b1,b2,b3,b4⟩
   ·rw [hb] at ho ⊢
    rw [oks_neg (by omega) ho,dt (.inl (by omega))]
    unfold PV
    simp [befS]
   ·rw [if_pos (by omega)]
    exact opt v xs _ m (by omega) b3 (by omega) ho
  refine ⟨by omega,fun he=>?_⟩
  rcases hi.one with h|⟨i,q,k1,k2,k3,k4,k5,k6⟩
  ·rw [dt (.inr (by rw [h];exact (by decide:(-1:Int) < 0)))];rfl
  ·rw [gZ h0 (by rw [k1];exact Int.natCast_nonneg _)]
   unfold befS
   by_cases hxy:x=((TT l e).1,(TT l e).2.1)
   ·rw [if_pos hxy]
    have e1:(TT l e).1=x.1:=by rw [hxy]
    have e2:(TT l e).2.1=x.2:=by rw [hxy]
    rw [e1,e2]
    exact key.2 (by omega)
   ·rw [if_neg hxy,decide_eq_false]
    intro hb2
    have hTV:TV l e=(TT l e).2.2:=rfl
    have:=k6 x.1.toNat x.2 hc (by
     rw [k1] at hb2;dsimp only at hb2
     rcases hb2 with hb2|⟨hb2,hb3⟩
     ·exact .inl hb2
     ·exact .inr ⟨hb2,by omega⟩)
    omega
theorem fX {l:Line} (v:Valid l):∀ (n:Nat) (e:Int),0≤e→e≤l.len→l.len - e+1≤n→OKs l e (bC l n e)∧PV l e (bC l n e)=TV l e
 | 0,e,h0,h1,hn=>by omega
 | n+1,e,h0,h1,hn=>by
  have hi:=tt_inv v h0 h1
  rcases hi.one with h|⟨i,q,k1,k2,k3,k4,k5,k6⟩
  ·rw [dt (.inr (by rw [h];exact (by decide:(-1:Int) < 0)))]
   refine ⟨trivial,?_⟩
   unfold PV TV
   rw [if_pos h0,h]
  ·have hc:=cand_at k2 k3 k4
   have hp:=perm_of v h0 hc
   rw [gZ h0 (by rw [k1];exact Int.natCast_nonneg _),k1]
   dsimp only
   have hs:=fg v hp
   obtain ⟨q1,q2,q3,q4,q5,q6,q7⟩:=gI (l:=l) (e:=e) (s:=(i:Int)) (p:=q) hp
   have hk:=v.kerf
   have hpi:=v.pitch
   have hex:e≤q:=by generalize (q - l.kerf - e).tmod l.pitch=tm at *;omega
   dsimp only at hs
   have hb:=fh v (q:=q+aR l i) (by omega) (by omega)
   have key:OKs l (aA l (q+aR l i)) (bC l n (aA l (q+aR l i)))∧(0≤aA l (q+aR l i)→PV l (aA l (q+aR l i)) (bC l n (aA l (q+aR l i)))=TV l (aA l (q+aR l i)))∧(aA l (q+aR l i) < 0→bC l n (aA l (q+aR l i))=[]):=by
    rcases hb with ⟨_,hb⟩|⟨b1,b2,b3,b4⟩
    ·rw [hb,dt (.inl (by omega))]
     exact ⟨trivial,fun h=>by omega,fun _=>rfl⟩
    ·obtain ⟨j1,j2⟩:=fX v n (aA l (q+aR l i)) (by omega) b3 (by omega)
     exact ⟨j1,fun _=>j2,fun h=>by omega⟩
   refine ⟨⟨hp,key.1⟩,?_⟩
   rw [PV_cons (x:=((i:Int),q)) (Int.natCast_nonneg _) (TV l) _ key.2.1 key.2.2]
   unfold TV
   rw [k1]
   rfl
end Go.Proofs.YtdndfncpglfdeaaGreatDoor.Cu

namespace Go.Proofs.YtdndfncpglfdeaaGreatDoor.Cu
set_option linter.unusedVariables false
set_option linter.unusedSimpArgs false
open Go.RowKit Go.Proofs.YtdndfncpglfdeaaGreatDoor.Ev
structure Grows (a b:Line):Prop where
 len:b.len=a.len
 kerf:b.kerf=a.kerf
 pitch:b.pitch=a.pitch
 chip:b.chip=a.chip
 dust:b.dust=a.dust
 more:a.sizes.length≤b.sizes.length
 size:∀ s:Int,0≤s→s < a.sizes.length→aR b s=aR a s
 gain:∀ s q:Int,0≤s→s < a.sizes.length→0≤q→q≤a.len - aR a s→gOf a s q≤gOf b s q
theorem Grows.behind {a b:Line} (g:Grows a b) (e:Int):aA b e=aA a e:=by unfold aA;rw [g.len,g.kerf]
theorem Grows.perm {a b:Line} (g:Grows a b) {e:Int} {x:bI} (h:perm a e x=0):perm b e x=0:=by
 obtain ⟨q1,q2,q3,q4,q5,q6,q7⟩:=gI (l:=a) (e:=e) (s:=x.1) (p:=x.2) h
 have h1:=g.size x.1 q1 q2
 have h2:=g.gain x.1 x.2 q1 q2 q3 q4
 have h3:=g.more
 unfold Cu.perm at h ⊢
 rw [g.len,g.kerf,g.pitch,h1]
 split at h
 ·cases h
 ·rw [if_neg (by omega)]
  split at h
  ·cases h
  ·rename_i h4
   rw [if_neg h4]
   split at h
   ·cases h
   ·rename_i h5
    rw [if_neg h5,if_neg (by omega)]
theorem Grows.oks {a b:Line} (g:Grows a b):∀ (p:List bI) (e:Int),OKs a e p→OKs b e p∧PV a e p≤PV b e p
 | [],e,_=>by
  refine ⟨trivial,?_⟩
  unfold PV cp
  rw [g.len,g.chip];exact Int.le_refl _
 | x::xs,e,⟨h1,h2⟩=>by
  obtain ⟨q1,q2,q3,q4,q5,q6,q7⟩:=gI (l:=a) (e:=e) (s:=x.1) (p:=x.2) h1
  have hs:=g.size x.1 q1 q2
  have hg:=g.gain x.1 x.2 q1 q2 q3 q4
  obtain ⟨i1,i2⟩:=g.oks xs _ h2
  have hb:aA b (x.2+aR b x.1)=aA a (x.2+aR a x.1):=by rw [hs,g.behind]
  refine ⟨⟨g.perm h1,by rw [hb];exact i1⟩,?_⟩
  unfold PV
  rw [hb,hs]
  have hp:cR b e x.2=cR a e x.2:=by unfold cR cp dp;rw [g.kerf,g.chip,g.dust]
  have hd:∀ k,dp b k=dp a k:=fun k=>by unfold dp;rw [g.dust]
  rw [hp,hd,hd]
  omega
theorem Grows.best {a b:Line} (g:Grows a b) (va:Valid a) (vb:Valid b):TV a 0≤TV b 0:=by
 have hl:=va.len
 obtain ⟨h1,h2⟩:=fX va (a.len.toNat+1) 0 (Int.le_refl 0) hl.1 (by omega)
 obtain ⟨h3,h4⟩:=g.oks _ _ h1
 have:=(opt vb (bC a (a.len.toNat+1) 0) 0 (b.len.toNat+1) (Int.le_refl 0) (by rw [g.len];exact hl.1) (by have:=vb.len;omega) h3).1
 omega
end Go.Proofs.YtdndfncpglfdeaaGreatDoor.Cu

namespace Go.Proofs.YtdndfncpglfdeaaGreatDoor.Cu
set_option linter.unusedVariables false
set_option linter.unusedSimpArgs false
open Go.RowKit Go.Proofs.YtdndfncpglfdeaaGreatDoor.Ev
theorem smallN_of {x:Int} (h:-1125899906842624≤x∧x≤1125899906842624):smallN x=true:=by
 unfold smallN;simp [h.1,h.2]
theorem chk_valid {l:Line} (v:Valid l):chk l=0:=by
 have h1:=v.len
 have h2:=v.kerf
 have h3:=v.pitch
 have h4:=v.sizes
 have hm:dB l=0:=(meas4 (by unfold cV;omega) (by omega) (fun i hi=>by
  have:=v.size i hi
  unfold iK;simp [this.1,this.2])).symm
 have hs:fl l:=⟨v.gain,v.chip,v.dust,fun i hi h h2=>v.row i h h2⟩
 refine (chk0 hm hs (fe fun i hi=>fe fun j hj=>smallN_of (v.gains i hi j hj)) ?_).symm
 simp only [List.all_cons,List.all_nil,Bool.and_true,Bool.and_eq_true]
 exact ⟨fe fun j hj=>smallN_of (v.chips j hj),fe fun j hj=>smallN_of (v.dusts j hj)⟩
end Go.Proofs.YtdndfncpglfdeaaGreatDoor.Cu
