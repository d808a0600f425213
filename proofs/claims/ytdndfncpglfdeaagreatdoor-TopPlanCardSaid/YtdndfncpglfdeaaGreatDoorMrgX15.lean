/- RC: texts laid together. -/
import Derived.Test.YtdndfncpglfdeaaGreatDoorMrgX14
import Derived.Test.YtdndfncpglfdeaaGreatDoorMrgS
set_option maxRecDepth 100000
set_option maxHeartbeats 64000000

namespace Go.Proofs.YtdndfncpglfdeaaGreatDoor.Tp
set_option linter.unusedVariables false
set_option linter.unusedSimpArgs false
open Go.RowKit Go.Proofs.YtdndfncpglfdeaaGreatDoor.Ev
open Go.Proofs.YtdndfncpglfdeaaGreatDoor.Cu (I LI LS gw ce)
open Go.Proofs.YtdndfncpglfdeaaGreatDoor.Ge (an aG)
variable {gl:List (Nat×List CV)}
def iX (k ax B:Int):Int→Bool→List (an×List Nd)→List Nd→List Nd×Int
 | _,en,[],out=>if (if en then out else out++[(0,0)]).length > 127 then ([],4) else (if en then out else out++[(0,0)],0)
 | e,en,x::ps,out =>
  if x.1.2≤x.1.1 then ([],19) else if en=true∨(x.1.1≠e∧x.1.1 < e+k+1) then ([],11) else if B < x.1.2 then ([],20) else
   iX k ax B (min (x.1.2+k) B) (decide (x.1.2=B)) ps (((out++if x.1.1=e then [] else [(ax,x.1.1 - k),(0,0)])++if x.1.2=B then [] else [(ax,x.1.2)])++x.2)
def smallS (s:an):Prop:=-1000000≤s.1∧s.1≤1000000∧-1000000≤s.2∧s.2≤1000000
theorem rrow_con (R:aG) (ax k:Int) (hax:ax=2∨ax=3) (hk:0≤k∧k≤20) (hX:aJ R.1) (hY:aJ R.2) (ats:List an) (ns:List (List Nd)) (hlen:ats.length=ns.length) (hL:ats.length≤1000) (hs:∀ x∈ats,smallS x) (hn:∀ x∈ns,x.length≤1000) :
  bm Tryz.prog gl 73 [dx R,I ax,I k,LS ats,LNds ns] (.tup [fY (iX k ax (aD R ax).2 (aD R ax).1 false (ats.zip ns) []).1,I (iX k ax (aD R ax).2 (aD R ax).1 false (ats.zip ns) []).2]):=by
 have c1:=framed_con (gl:=gl) R.1 R.2
 rw [decide_eq_true ⟨hX,hY⟩] at c1
 have hAB:-600≤(aD R ax).1∧(aD R ax).1 < (aD R ax).2∧(aD R ax).2≤600:=by
  unfold aD;split
  ·exact hX
  ·exact hY
 obtain ⟨⟨X1,X2⟩,⟨Y1,Y2⟩⟩:=R
 have hal:aD ((X1,X2),(Y1,Y2)) ax=if ax=2 then (X1,X2) else (Y1,Y2):=rfl
 generalize hW:aD ((X1,X2),(Y1,Y2)) ax=W at *
 obtain ⟨A0,B⟩:=W
 generalize hRR:iX k ax B A0 false (ats.zip ns) []=RR
 obtain ⟨R1,R2⟩:=RR
 dsimp only at *
 have main:∀ (X1 X2 Y1 Y2:Int),((ax=2∧A0=X1∧B=X2)∨(ax=3∧A0=Y1∧B=Y2))→bm Tryz.prog gl 31 [.agg (cQ (X1,X2) (Y1,Y2))] (BO true)→bm Tryz.prog gl 73 [dx ((X1,X2),(Y1,Y2)),I ax,I k,LS ats,LNds ns] (.tup [fY R1,I R2]):=by
  intro X1 X2 Y1 Y2 hcase c1
  refine ao Tryz.func73 rfl (by kernel_rfl) rfl ?_
  simp only [Tryz.ntmps73,Tryz.results73,am,ofC,aZ,List.map]
  rcases hcase with ⟨hax,rfl,rfl⟩|⟨hax,rfl,rfl⟩
  all_goals
   repeat' (first
 | ((with_reducible apply (ah (f:=31)));exact rfl;exact rfl;exact c1;iterate 2 exact rfl)
 | ((with_reducible first|apply aw_seq|apply aw_region|apply aw_block|apply thn_normal|apply aw_skip|apply ao_nil))
 | ((with_reducible first|apply r_move|apply r_assign|apply r_field_p|apply r_box_a|apply r_not);iterate 2 exact rfl)
 | ((with_reducible apply gm);iterate 4 exact rfl)
 | ((with_reducible apply r_load_pa);iterate 5 exact rfl)
 | ((with_reducible first|apply r_lss|apply r_gtr|apply r_eql|apply r_neq|apply r_pick_t);iterate 3 exact rfl)
 | ((with_reducible apply r_pick_f);iterate 3 exact rfl)
 | ((with_reducible apply r_len_f);exact rfl;exact inferInstance;exact rfl)
 | ((with_reducible apply r_store_pa);iterate 6 exact rfl)
 | ((with_reducible apply r_alloc);exact rfl)
 | ((first|((with_reducible apply aj);iterate 4 exact rfl)|((with_reducible apply aa);exact rfl))<;>intro hg<;>(first|(exact absurd hg (by decide))|((try simp only [qz,ge_iff_le,List.cons.injEq,and_true] at hg);first|(exact absurd trivial hg)|(exfalso;omega)|(have hT:True:=hg;clear hT hg)|skip)))
 )
   refine bo 13 49 2 rfl rfl ?_
   refine au (G:=Nat×Int×Bool×List Nd) (fun ((j,e,en,out):Nat×Int×Bool×List Nd)=>j≤ats.length∧iX k ax B e en ((ats.zip ns).drop j) out=(R1,R2)∧-2000000≤e∧e≤2000000∧out.length≤1003 * j) (fun ((j,e,en,out):Nat×Int×Bool×List Nd)=>ats.length - j) (fun ((j,e,en,out):Nat×Int×Bool×List Nd)=>[(1,A ax),(2,A k),(3,.c (LS ats)),(4,.c (LNds ns)),(12,.ptr 1 0),(13,.vec 2 out.length),(14,A e),(15,.c (BO en)),(16,A j)]) (fun ((j,e,en,out):Nat×Int×Bool×List Nd)=>[(2,some (.vec 49 2 (out.flatMap ndC))),(1,some (.cells 35 [A A0,A B]))]) 3 (0,A0,false,[]) ?_ (by refine ak rfl ?_ ?_<;>repeat (first|exact ai|exact ac|refine ae rfl rfl ?_|refine ab rfl rfl rfl ?_)) rfl ?_
   ·exact ⟨Nat.zero_le _,hRR,by show _≤A0;omega,by show A0≤_;omega,Nat.zero_le _⟩
   rintro ⟨j,e,en,out⟩ hI
   try dsimp only at hI
   try dsimp only
   obtain ⟨hj,hr,he0,he1,hol⟩:=hI
   by_cases hjl:j < ats.length
   ·have hjn:j < ns.length:=by omega
    rw [zip_drop ats ns j hjl hjn] at hr
    obtain ⟨w1,w2,w3,w4⟩:=hs _ (List.getElem_mem hjl)
    have wn:=hn _ (List.getElem_mem hjn)
    unfold iX at hr
    dsimp only at hr
    by_cases q1:ats[j].2≤ats[j].1
    ·rw [if_pos q1] at hr
     obtain ⟨rfl,rfl⟩:([]:List Nd)=R1∧(19:Int)=R2:=by injection hr with a b;exact ⟨a,b⟩
     repeat' (first
 | ((with_reducible first|apply aw_seq|apply aw_region|apply aw_block|apply thn_normal|apply thn_ret|apply inb_ret|apply aw_skip|apply aw_ret|apply ao_nil|apply ds_nil))
 | ((with_reducible first|apply r_move|apply r_assign|apply r_field_e);iterate 2 exact rfl)
 | ((with_reducible first|apply r_lss|apply r_geq);iterate 3 exact rfl)
 | ((with_reducible apply r_len_f);exact rfl;exact inferInstance;exact rfl)
 | ((with_reducible apply bD);exact rfl;exact inferInstance;exact rfl;exact rfl;(first|assumption|omega);exact rfl)
 | ((with_reducible apply r_load_f0);exact rfl;exact inferInstance;exact List.getElem?_eq_getElem (by first|assumption|omega);iterate 2 exact rfl)
 | ((with_reducible apply r_load_f);exact rfl;exact inferInstance;exact List.getElem?_eq_getElem (by first|assumption|omega);iterate 3 exact rfl)
 | (((with_reducible apply aa);exact rfl)<;>intro hg<;>(first|(exact absurd hg (by decide))|((try simp only [qz,ge_iff_le,List.cons.injEq,and_true] at hg);first|(exact absurd trivial hg)|(exfalso;omega)|(have hT:True:=hg;clear hT hg)|skip)))
 | (refine aw_drawq ?_ ?_;(kernel_rfl))
 )
     all_goals exact bJ (.cons (.tmp rfl bP) (.cons (.tmp rfl ap) .nil))
    ·rw [if_neg q1] at hr
     cases en with
     | true =>
      rw [if_pos (.inl rfl)] at hr
      obtain ⟨rfl,rfl⟩:([]:List Nd)=R1∧(11:Int)=R2:=by injection hr with a b;exact ⟨a,b⟩
      repeat' (first
 | ((with_reducible first|apply aw_seq|apply aw_region|apply aw_block|apply thn_normal|apply thn_ret|apply inb_ret|apply aw_skip|apply aw_ret|apply ao_nil|apply ds_nil))
 | ((with_reducible first|apply r_move|apply r_assign|apply r_field_e);iterate 2 exact rfl)
 | ((with_reducible first|apply r_lss|apply r_geq|apply r_pick_t);iterate 3 exact rfl)
 | ((with_reducible apply r_len_f);exact rfl;exact inferInstance;exact rfl)
 | ((with_reducible apply bD);exact rfl;exact inferInstance;exact rfl;exact rfl;(first|assumption|omega);exact rfl)
 | ((with_reducible apply r_load_f0);exact rfl;exact inferInstance;exact List.getElem?_eq_getElem (by first|assumption|omega);iterate 2 exact rfl)
 | ((with_reducible apply r_load_f);exact rfl;exact inferInstance;exact List.getElem?_eq_getElem (by first|assumption|omega);iterate 3 exact rfl)
 | ((first|((with_reducible apply aj);iterate 4 exact rfl)|((with_reducible apply aa);exact rfl))<;>intro hg<;>(first|(exact absurd hg (by decide))|((try simp only [qz,ge_iff_le,List.cons.injEq,and_true] at hg);first|(exact absurd trivial hg)|(exfalso;omega)|(have hT:True:=hg;clear hT hg)|skip)))
 | ((with_reducible apply r_guard_none);iterate 4 exact rfl)
 | (refine aw_drawq ?_ ?_;(kernel_rfl))
 )
      all_goals exact bJ (.cons (.tmp rfl bP) (.cons (.tmp rfl ap) .nil))
     | false =>
      by_cases q2:ats[j].1≠e∧ats[j].1 < e+k+1
      ·rw [if_pos (.inr q2)] at hr
       obtain ⟨q3,q4⟩:=q2
       obtain ⟨rfl,rfl⟩:([]:List Nd)=R1∧(11:Int)=R2:=by injection hr with a b;exact ⟨a,b⟩
       repeat' (first
 | ((with_reducible first|apply aw_seq|apply aw_region|apply aw_block|apply thn_normal|apply thn_ret|apply inb_ret|apply aw_skip|apply aw_ret|apply ao_nil|apply ds_nil))
 | ((with_reducible first|apply r_move|apply r_assign|apply r_field_e);iterate 2 exact rfl)
 | ((with_reducible first|apply r_lss|apply r_geq|apply r_neq|apply r_pick_t);iterate 3 exact rfl)
 | ((with_reducible apply r_add);exact rfl;exact rfl;exact (by first|assumption|(unfold aQ;omega));exact rfl)
 | ((with_reducible apply r_pick_f);iterate 3 exact rfl)
 | ((with_reducible apply r_len_f);exact rfl;exact inferInstance;exact rfl)
 | ((with_reducible apply bD);exact rfl;exact inferInstance;exact rfl;exact rfl;(first|assumption|omega);exact rfl)
 | ((with_reducible apply r_load_f0);exact rfl;exact inferInstance;exact List.getElem?_eq_getElem (by first|assumption|omega);iterate 2 exact rfl)
 | ((with_reducible apply r_load_f);exact rfl;exact inferInstance;exact List.getElem?_eq_getElem (by first|assumption|omega);iterate 3 exact rfl)
 | ((first|((with_reducible apply aj);iterate 4 exact rfl)|((with_reducible apply aa);exact rfl))<;>intro hg<;>(first|(exact absurd hg (by decide))|((try simp only [qz,ge_iff_le,List.cons.injEq,and_true] at hg);first|(exact absurd trivial hg)|(exfalso;omega)|(have hT:True:=hg;clear hT hg)|skip)))
 | (refine aw_drawq ?_ ?_;(kernel_rfl))
 )
       all_goals exact bJ (.cons (.tmp rfl bP) (.cons (.tmp rfl ap) .nil))
      ·rw [if_neg (by rintro (h|h);cases h;exact q2 h)] at hr
       by_cases q5:B < ats[j].2
       ·rw [if_pos q5] at hr
        by_cases q6:ats[j].1=e
        ·obtain ⟨rfl,rfl⟩:([]:List Nd)=R1∧(20:Int)=R2:=by injection hr with a b;exact ⟨a,b⟩
         repeat' (first
 | ((with_reducible first|apply aw_seq|apply aw_region|apply aw_block|apply thn_normal|apply thn_ret|apply inb_ret|apply aw_skip|apply aw_ret|apply ao_nil|apply ds_nil))
 | ((with_reducible first|apply r_move|apply r_assign|apply r_field_p);iterate 2 exact rfl)
 | ((with_reducible apply gm);iterate 4 exact rfl)
 | ((with_reducible first|apply r_lss|apply r_gtr|apply r_geq|apply r_neq|apply r_pick_f);iterate 3 exact rfl)
 | ((with_reducible apply r_len_f);exact rfl;exact inferInstance;exact rfl)
 | ((with_reducible apply bD);exact rfl;exact inferInstance;exact rfl;exact rfl;(first|assumption|omega);exact rfl)
 | ((with_reducible apply r_load_f0);exact rfl;exact inferInstance;exact List.getElem?_eq_getElem (by first|assumption|omega);iterate 2 exact rfl)
 | ((with_reducible apply r_load_f);exact rfl;exact inferInstance;exact List.getElem?_eq_getElem (by first|assumption|omega);iterate 3 exact rfl)
 | ((with_reducible apply r_field_e);iterate 2 exact rfl)
 | ((first|((with_reducible apply aj);iterate 4 exact rfl)|((with_reducible apply aa);exact rfl))<;>intro hg<;>(first|(exact absurd hg (by decide))|((try simp only [qz,ge_iff_le,List.cons.injEq,and_true] at hg);first|(exact absurd trivial hg)|(exfalso;omega)|(have hT:True:=hg;clear hT hg)|skip)))
 | (refine aw_drawq ?_ ?_;(kernel_rfl))
 )
         all_goals exact bJ (.cons (.tmp rfl bP) (.cons (.tmp rfl ap) .nil))
        ·have q7:e+k+1≤ats[j].1:=by omega
         obtain ⟨rfl,rfl⟩:([]:List Nd)=R1∧(20:Int)=R2:=by injection hr with a b;exact ⟨a,b⟩
         repeat' (first
 | ((with_reducible first|apply aw_seq|apply aw_region|apply aw_block|apply thn_normal|apply thn_ret|apply inb_ret|apply aw_skip|apply aw_ret|apply ao_nil|apply ds_nil))
 | ((with_reducible first|apply r_move|apply r_assign|apply r_field_p);iterate 2 exact rfl)
 | ((with_reducible apply gm);iterate 4 exact rfl)
 | ((with_reducible first|apply r_lss|apply r_gtr|apply r_geq|apply r_neq|apply r_pick_t);iterate 3 exact rfl)
 | ((with_reducible apply r_add);exact rfl;exact rfl;exact (by first|assumption|(unfold aQ;omega));exact rfl)
 | ((with_reducible apply r_pick_f);iterate 3 exact rfl)
 | ((with_reducible apply r_len_f);exact rfl;exact inferInstance;exact rfl)
 | ((with_reducible apply bD);exact rfl;exact inferInstance;exact rfl;exact rfl;(first|assumption|omega);exact rfl)
 | ((with_reducible apply r_load_f0);exact rfl;exact inferInstance;exact List.getElem?_eq_getElem (by first|assumption|omega);iterate 2 exact rfl)
 | ((with_reducible apply r_load_f);exact rfl;exact inferInstance;exact List.getElem?_eq_getElem (by first|assumption|omega);iterate 3 exact rfl)
 | ((with_reducible apply r_field_e);iterate 2 exact rfl)
 | ((first|((with_reducible apply aj);iterate 4 exact rfl)|((with_reducible apply aa);exact rfl))<;>intro hg<;>(first|(exact absurd hg (by decide))|((try simp only [qz,ge_iff_le,List.cons.injEq,and_true] at hg);first|(exact absurd trivial hg)|(exfalso;omega)|(have hT:True:=hg;clear hT hg)|skip)))
 | (refine aw_drawq ?_ ?_;(kernel_rfl))
 )
         all_goals exact bJ (.cons (.tmp rfl bP) (.cons (.tmp rfl ap) .nil))
       ·rw [if_neg q5] at hr
        by_cases q6:ats[j].1=e
        ·rw [if_pos q6] at hr
         by_cases q8:ats[j].2=B
         ·rw [if_pos q8,List.append_nil,List.append_nil] at hr
          repeat' (first
 | (refine aL (id:=27) 9 ?_ ?_;(kernel_rfl);(simp only [List.take_succ_cons,List.take_zero,List.drop_succ_cons,List.drop_zero]))
 | ((with_reducible apply bg);iterate 7 exact rfl)
 | ((with_reducible apply (aH (enc:=ndC) (l2:=ns[j])));exact rfl;exact rfl;exact inferInstance;(first|exact rfl|exact List.length_append ..|(simp only [List.length_append,List.length_cons,List.length_nil];try omega));exact rfl;((try simp only [List.length_cons,List.length_nil]);omega);((try simp only [List.length_cons,List.length_nil]);omega);exact rfl)
 | ((with_reducible first|apply aw_seq|apply aw_region|apply aw_block|apply thn_normal|apply inb_normal|apply aw_skip|apply ao_nil|apply ds_nil))
 | ((with_reducible first|apply r_move|apply r_assign|apply r_field_p|apply r_not);iterate 2 exact rfl)
 | ((with_reducible apply gm);iterate 4 exact rfl)
 | ((with_reducible first|apply r_lss|apply r_gtr|apply r_geq|apply r_eql|apply r_neq|apply r_min|apply r_pick_f);iterate 3 exact rfl)
 | ((with_reducible apply r_add);exact rfl;exact rfl;exact (by first|assumption|(unfold aQ;omega));exact rfl)
 | ((with_reducible apply r_len_f);exact rfl;exact inferInstance;exact rfl)
 | ((with_reducible apply bD);exact rfl;exact inferInstance;exact rfl;exact rfl;(first|assumption|omega);exact rfl)
 | ((with_reducible apply r_load_f0);exact rfl;exact inferInstance;exact List.getElem?_eq_getElem (by first|assumption|omega);iterate 2 exact rfl)
 | ((with_reducible apply r_load_f);exact rfl;exact inferInstance;exact List.getElem?_eq_getElem (by first|assumption|omega);iterate 3 exact rfl)
 | ((with_reducible apply r_field_e);iterate 2 exact rfl)
 | ((first|((with_reducible apply aj);iterate 4 exact rfl)|((with_reducible apply aa);exact rfl))<;>intro hg<;>(first|(exact absurd hg (by decide))|((try simp only [qz,ge_iff_le,List.cons.injEq,and_true] at hg);first|(exact absurd trivial hg)|(exfalso;omega)|(have hT:True:=hg;clear hT hg)|skip)))
 | (refine aw_drawq ?_ ?_;(kernel_rfl))
 )
          rw [show out.length+ns[j].length=(out++ns[j]).length by simp only [List.length_append]]
          refine ⟨(j+1,min (ats[j].2+k) B,decide (ats[j].2=B),out++ns[j]),?_,?_,by refine ak rfl ?_ ?_<;>repeat (first|exact ai|exact ac|refine ae rfl rfl ?_|refine ab rfl rfl rfl ?_)⟩
          ·show ats.length - (j+1) < ats.length - j;omega
          ·exact ⟨hjl,hr,by show _≤min _ _;omega,by show min _ _≤_;omega,by show (out++ns[j]).length≤1003 * (j+1);simp only [List.length_append,List.length_cons,List.length_nil];omega⟩
         ·rw [if_neg q8,List.append_nil] at hr
          repeat' (first
 | (refine aL (id:=27) 9 ?_ ?_;(kernel_rfl);(simp only [List.take_succ_cons,List.take_zero,List.drop_succ_cons,List.drop_zero]))
 | ((with_reducible apply bg);iterate 7 exact rfl)
 | ((with_reducible apply (aH (enc:=ndC) (l2:=[(ax,ats[j].2)])));exact rfl;exact rfl;exact inferInstance;(first|exact rfl|exact List.length_append ..|(simp only [List.length_append,List.length_cons,List.length_nil];try omega));exact rfl;((try simp only [List.length_cons,List.length_nil]);omega);((try simp only [List.length_cons,List.length_nil]);omega);exact rfl)
 | ((with_reducible apply (aH (enc:=ndC) (l2:=ns[j])));exact rfl;exact rfl;exact inferInstance;(first|exact rfl|exact List.length_append ..|(simp only [List.length_append,List.length_cons,List.length_nil];try omega));exact rfl;((try simp only [List.length_cons,List.length_nil]);omega);((try simp only [List.length_cons,List.length_nil]);omega);exact rfl)
 | ((with_reducible first|apply aw_seq|apply aw_region|apply aw_block|apply thn_normal|apply inb_normal|apply aw_skip|apply ao_nil|apply ds_nil))
 | ((with_reducible first|apply r_move|apply r_assign|apply r_field_p|apply r_not);iterate 2 exact rfl)
 | ((with_reducible apply gm);iterate 4 exact rfl)
 | ((with_reducible first|apply r_lss|apply r_gtr|apply r_geq|apply r_eql|apply r_neq|apply r_min|apply r_pick_f|apply r_build);iterate 3 exact rfl)
 | ((with_reducible apply r_add);exact rfl;exact rfl;exact (by first|assumption|(unfold aQ;omega));exact rfl)
 | ((with_reducible apply r_len_f);exact rfl;exact inferInstance;exact rfl)
 | ((with_reducible apply bD);exact rfl;exact inferInstance;exact rfl;exact rfl;(first|assumption|omega);exact rfl)
 | ((with_reducible apply r_load_f0);exact rfl;exact inferInstance;exact List.getElem?_eq_getElem (by first|assumption|omega);iterate 2 exact rfl)
 | ((with_reducible apply r_load_f);exact rfl;exact inferInstance;exact List.getElem?_eq_getElem (by first|assumption|omega);iterate 3 exact rfl)
 | ((with_reducible apply r_field_e);iterate 2 exact rfl)
 | ((first|((with_reducible apply aj);iterate 4 exact rfl)|((with_reducible apply aa);exact rfl))<;>intro hg<;>(first|(exact absurd hg (by decide))|((try simp only [qz,ge_iff_le,List.cons.injEq,and_true] at hg);first|(exact absurd trivial hg)|(exfalso;omega)|(have hT:True:=hg;clear hT hg)|skip)))
 | (refine aw_drawq ?_ ?_;(kernel_rfl))
 )
          rw [show out.length+([(ax,ats[j].2)]:List Nd).length+ns[j].length=((out++[(ax,ats[j].2)])++ns[j]).length by simp only [List.length_append]]
          refine ⟨(j+1,min (ats[j].2+k) B,decide (ats[j].2=B),(out++[(ax,ats[j].2)])++ns[j]),?_,?_,by refine ak rfl ?_ ?_<;>repeat (first|exact ai|exact ac|refine ae rfl rfl ?_|refine ab rfl rfl rfl ?_)⟩
          ·show ats.length - (j+1) < ats.length - j;omega
          ·exact ⟨hjl,hr,by show _≤min _ _;omega,by show min _ _≤_;omega,by show ((out++[(ax,ats[j].2)])++ns[j]).length≤1003 * (j+1);simp only [List.length_append,List.length_cons,List.length_nil];omega⟩
        ·have q7:e+k+1≤ats[j].1:=by omega
         rw [if_neg q6] at hr
         by_cases q8:ats[j].2=B
         ·rw [if_pos q8,List.append_nil] at hr
          repeat' (first
 | (refine aL (id:=27) 9 ?_ ?_;(kernel_rfl);(simp only [List.take_succ_cons,List.take_zero,List.drop_succ_cons,List.drop_zero]))
 | ((with_reducible apply bg);iterate 7 exact rfl)
 | ((with_reducible apply (aH (enc:=ndC) (l2:=[(ax,ats[j].1 - k),(0,0)])));exact rfl;exact rfl;exact inferInstance;(first|exact rfl|exact List.length_append ..|(simp only [List.length_append,List.length_cons,List.length_nil];try omega));exact rfl;((try simp only [List.length_cons,List.length_nil]);omega);((try simp only [List.length_cons,List.length_nil]);omega);exact rfl)
 | ((with_reducible apply (aH (enc:=ndC) (l2:=ns[j])));exact rfl;exact rfl;exact inferInstance;(first|exact rfl|exact List.length_append ..|(simp only [List.length_append,List.length_cons,List.length_nil];try omega));exact rfl;((try simp only [List.length_cons,List.length_nil]);omega);((try simp only [List.length_cons,List.length_nil]);omega);exact rfl)
 | ((with_reducible first|apply aw_seq|apply aw_region|apply aw_block|apply thn_normal|apply inb_normal|apply aw_skip|apply ao_nil|apply ds_nil))
 | ((with_reducible first|apply r_move|apply r_assign|apply r_field_p|apply r_not);iterate 2 exact rfl)
 | ((with_reducible apply gm);iterate 4 exact rfl)
 | ((with_reducible first|apply r_lss|apply r_gtr|apply r_geq|apply r_eql|apply r_neq|apply r_min|apply r_pick_t|apply r_build);iterate 3 exact rfl)
 | ((with_reducible apply r_add);exact rfl;exact rfl;exact (by first|assumption|(unfold aQ;omega));exact rfl)
 | ((with_reducible apply r_sub);exact rfl;exact rfl;exact (by first|assumption|(unfold aQ;omega));exact rfl)
 | ((with_reducible apply r_pick_f);iterate 3 exact rfl)
 | ((with_reducible apply r_len_f);exact rfl;exact inferInstance;exact rfl)
 | ((with_reducible apply bD);exact rfl;exact inferInstance;exact rfl;exact rfl;(first|assumption|omega);exact rfl)
 | ((with_reducible apply r_load_f0);exact rfl;exact inferInstance;exact List.getElem?_eq_getElem (by first|assumption|omega);iterate 2 exact rfl)
 | ((with_reducible apply r_load_f);exact rfl;exact inferInstance;exact List.getElem?_eq_getElem (by first|assumption|omega);iterate 3 exact rfl)
 | ((with_reducible apply r_field_e);iterate 2 exact rfl)
 | ((first|((with_reducible apply aj);iterate 4 exact rfl)|((with_reducible apply aa);exact rfl))<;>intro hg<;>(first|(exact absurd hg (by decide))|((try simp only [qz,ge_iff_le,List.cons.injEq,and_true] at hg);first|(exact absurd trivial hg)|(exfalso;omega)|(have hT:True:=hg;clear hT hg)|skip)))
 | (refine aw_drawq ?_ ?_;(kernel_rfl))
 )
          rw [show out.length+([(ax,ats[j].1 - k),(0,0)]:List Nd).length+ns[j].length=((out++[(ax,ats[j].1 - k),(0,0)])++ns[j]).length by simp only [List.length_append]]
          refine ⟨(j+1,min (ats[j].2+k) B,decide (ats[j].2=B),(out++[(ax,ats[j].1 - k),(0,0)])++ns[j]),?_,?_,by refine ak rfl ?_ ?_<;>repeat (first|exact ai|exact ac|refine ae rfl rfl ?_|refine ab rfl rfl rfl ?_)⟩
          ·show ats.length - (j+1) < ats.length - j;omega
          ·exact ⟨hjl,hr,by show _≤min _ _;omega,by show min _ _≤_;omega,by show ((out++[(ax,ats[j].1 - k),(0,0)])++ns[j]).length≤1003 * (j+1);simp only [List.length_append,List.length_cons,List.length_nil];omega⟩
         ·rw [if_neg q8] at hr
          repeat' (first
 | (refine aL (id:=27) 9 ?_ ?_;(kernel_rfl);(simp only [List.take_succ_cons,List.take_zero,List.drop_succ_cons,List.drop_zero]))
 | ((with_reducible apply bg);iterate 7 exact rfl)
 | ((with_reducible apply (aH (enc:=ndC) (l2:=[(ax,ats[j].1 - k),(0,0)])));exact rfl;exact rfl;exact inferInstance;(first|exact rfl|exact List.length_append ..|(simp only [List.length_append,List.length_cons,List.length_nil];try omega));exact rfl;((try simp only [List.length_cons,List.length_nil]);omega);((try simp only [List.length_cons,List.length_nil]);omega);exact rfl)
 | ((with_reducible apply (aH (enc:=ndC) (l2:=[(ax,ats[j].2)])));exact rfl;exact rfl;exact inferInstance;(first|exact rfl|exact List.length_append ..|(simp only [List.length_append,List.length_cons,List.length_nil];try omega));exact rfl;((try simp only [List.length_cons,List.length_nil]);omega);((try simp only [List.length_cons,List.length_nil]);omega);exact rfl)
 | ((with_reducible apply (aH (enc:=ndC) (l2:=ns[j])));exact rfl;exact rfl;exact inferInstance;(first|exact rfl|exact List.length_append ..|(simp only [List.length_append,List.length_cons,List.length_nil];try omega));exact rfl;((try simp only [List.length_cons,List.length_nil]);omega);((try simp only [List.length_cons,List.length_nil]);omega);exact rfl)
 | ((with_reducible first|apply aw_seq|apply aw_region|apply aw_block|apply thn_normal|apply inb_normal|apply aw_skip|apply ao_nil|apply ds_nil))
 | ((with_reducible first|apply r_move|apply r_assign|apply r_field_p|apply r_not);iterate 2 exact rfl)
 | ((with_reducible apply gm);iterate 4 exact rfl)
 | ((with_reducible first|apply r_lss|apply r_gtr|apply r_geq|apply r_eql|apply r_neq|apply r_min|apply r_pick_t|apply r_build);iterate 3 exact rfl)
 | ((with_reducible apply r_add);exact rfl;exact rfl;exact (by first|assumption|(unfold aQ;omega));exact rfl)
 | ((with_reducible apply r_sub);exact rfl;exact rfl;exact (by first|assumption|(unfold aQ;omega));exact rfl)
 | ((with_reducible apply r_pick_f);iterate 3 exact rfl)
 | ((with_reducible apply r_len_f);exact rfl;exact inferInstance;exact rfl)
 | ((with_reducible apply bD);exact rfl;exact inferInstance;exact rfl;exact rfl;(first|assumption|omega);exact rfl)
 | ((with_reducible apply r_load_f0);exact rfl;exact inferInstance;exact List.getElem?_eq_getElem (by first|assumption|omega);iterate 2 exact rfl)
 | ((with_reducible apply r_load_f);exact rfl;exact inferInstance;exact List.getElem?_eq_getElem (by first|assumption|omega);iterate 3 exact rfl)
 | ((with_reducible apply r_field_e);iterate 2 exact rfl)
 | ((first|((with_reducible apply aj);iterate 4 exact rfl)|((with_reducible apply aa);exact rfl))<;>intro hg<;>(first|(exact absurd hg (by decide))|((try simp only [qz,ge_iff_le,List.cons.injEq,and_true] at hg);first|(exact absurd trivial hg)|(exfalso;omega)|(have hT:True:=hg;clear hT hg)|skip)))
 | (refine aw_drawq ?_ ?_;(kernel_rfl))
 )
          rw [show out.length+([(ax,ats[j].1 - k),(0,0)]:List Nd).length+([(ax,ats[j].2)]:List Nd).length+ns[j].length=(((out++[(ax,ats[j].1 - k),(0,0)])++[(ax,ats[j].2)])++ns[j]).length by simp only [List.length_append]]
          refine ⟨(j+1,min (ats[j].2+k) B,decide (ats[j].2=B),((out++[(ax,ats[j].1 - k),(0,0)])++[(ax,ats[j].2)])++ns[j]),?_,?_,by refine ak rfl ?_ ?_<;>repeat (first|exact ai|exact ac|refine ae rfl rfl ?_|refine ab rfl rfl rfl ?_)⟩
          ·show ats.length - (j+1) < ats.length - j;omega
          ·exact ⟨hjl,hr,by show _≤min _ _;omega,by show min _ _≤_;omega,by show (((out++[(ax,ats[j].1 - k),(0,0)])++[(ax,ats[j].2)])++ns[j]).length≤1003 * (j+1);simp only [List.length_append,List.length_cons,List.length_nil];omega⟩
   ·have hzn:(ats.zip ns).drop j=[]:=List.drop_eq_nil_of_le (by rw [List.length_zip];omega)
    rw [hzn] at hr
    unfold iX at hr
    cases en with
    | true =>
     rw [if_pos rfl] at hr
     by_cases q1:out.length > 127
     ·rw [if_pos q1] at hr
      obtain ⟨rfl,rfl⟩:([]:List Nd)=R1∧(4:Int)=R2:=by injection hr with a b;exact ⟨a,b⟩
      repeat' (first
 | ((with_reducible first|apply aw_seq|apply aw_region|apply thn_normal|apply thn_ret|apply thn_exit|apply inb_exit|apply aw_skip|apply aw_exit|apply aw_ret|apply ao_nil))
 | ((with_reducible first|apply r_move|apply r_assign|apply r_not);iterate 2 exact rfl)
 | ((with_reducible first|apply r_lss|apply r_gtr);iterate 3 exact rfl)
 | ((with_reducible apply r_len_f);exact rfl;exact inferInstance;exact rfl)
 | ((with_reducible apply r_len_v);exact rfl;exact rfl;(first|(exact av EncL.len _)|(rw [av EncL.len];first|assumption|omega|(congr 1;omega)));exact rfl)
 | (((with_reducible apply aa);exact rfl)<;>intro hg<;>(first|(exact absurd hg (by decide))|((try simp only [qz,ge_iff_le,List.cons.injEq,and_true] at hg);first|(exact absurd trivial hg)|(exfalso;omega)|(have hT:True:=hg;clear hT hg)|skip)))
 )
      all_goals exact bJ (.cons (.tmp rfl bP) (.cons (.tmp rfl ap) .nil))
     ·rw [if_neg q1] at hr
      obtain ⟨rfl,rfl⟩:out=R1∧(0:Int)=R2:=by injection hr with a b;exact ⟨a,b⟩
      repeat' (first
 | ((with_reducible first|apply aw_seq|apply aw_region|apply thn_normal|apply thn_exit|apply inb_exit|apply aw_skip|apply aw_exit|apply aw_ret|apply ao_nil))
 | ((with_reducible first|apply r_move|apply r_assign|apply r_not);iterate 2 exact rfl)
 | ((with_reducible first|apply r_lss|apply r_gtr);iterate 3 exact rfl)
 | ((with_reducible apply r_len_f);exact rfl;exact inferInstance;exact rfl)
 | ((with_reducible apply r_len_v);exact rfl;exact rfl;(first|(exact av EncL.len _)|(rw [av EncL.len];first|assumption|omega|(congr 1;omega)));exact rfl)
 | (((with_reducible apply aa);exact rfl)<;>intro hg<;>(first|(exact absurd hg (by decide))|((try simp only [qz,ge_iff_le,List.cons.injEq,and_true] at hg);first|(exact absurd trivial hg)|(exfalso;omega)|(have hT:True:=hg;clear hT hg)|skip)))
 )
      all_goals exact bJ (.cons (.tmp rfl (bx rfl (av EncL.len _))) (.cons (.tmp rfl ap) .nil))
    | false =>
     simp only [Bool.false_eq_true,if_false] at hr
     have hll:(out++[((0:Int),(0:Int))]).length=out.length+1:=by rw [List.length_append];rfl
     have hl1:((([((0:Int),(0:Int))]:List Nd).length:Nat):Int)=1:=rfl
     by_cases q1:out.length+1 > 127
     ·rw [hll,if_pos q1] at hr
      obtain ⟨rfl,rfl⟩:([]:List Nd)=R1∧(4:Int)=R2:=by injection hr with a b;exact ⟨a,b⟩
      repeat' (first
 | ((with_reducible apply bg);iterate 7 exact rfl)
 | ((with_reducible apply (aH (enc:=ndC) (l2:=[(0,0)])));exact rfl;exact rfl;exact inferInstance;(first|exact rfl|exact List.length_append ..|(simp only [List.length_append,List.length_cons,List.length_nil];try omega));exact rfl;((try simp only [List.length_cons,List.length_nil]);omega);((try simp only [List.length_cons,List.length_nil]);omega);exact rfl)
 | ((with_reducible first|apply aw_seq|apply aw_region|apply thn_normal|apply thn_ret|apply thn_exit|apply inb_exit|apply aw_exit|apply aw_ret|apply ao_nil))
 | ((with_reducible first|apply r_move|apply r_assign|apply r_not);iterate 2 exact rfl)
 | ((with_reducible first|apply r_lss|apply r_gtr|apply r_build);iterate 3 exact rfl)
 | ((with_reducible apply r_len_f);exact rfl;exact inferInstance;exact rfl)
 | ((with_reducible apply r_len_v);exact rfl;exact rfl;(first|(exact av EncL.len _)|(rw [av EncL.len];first|assumption|omega|(congr 1;omega)));exact rfl)
 | (((with_reducible apply aa);exact rfl)<;>intro hg<;>(first|(exact absurd hg (by decide))|((try simp only [qz,ge_iff_le,List.cons.injEq,and_true] at hg);first|(exact absurd trivial hg)|(exfalso;omega)|(have hT:True:=hg;clear hT hg)|skip)))
 )
      all_goals exact bJ (.cons (.tmp rfl bP) (.cons (.tmp rfl ap) .nil))
     ·rw [hll,if_neg q1] at hr
      obtain ⟨rfl,rfl⟩:out++[(0,0)]=R1∧(0:Int)=R2:=by injection hr with a b;exact ⟨a,b⟩
      repeat' (first
 | ((with_reducible apply bg);iterate 7 exact rfl)
 | ((with_reducible apply (aH (enc:=ndC) (l2:=[(0,0)])));exact rfl;exact rfl;exact inferInstance;(first|exact rfl|exact List.length_append ..|(simp only [List.length_append,List.length_cons,List.length_nil];try omega));exact rfl;((try simp only [List.length_cons,List.length_nil]);omega);((try simp only [List.length_cons,List.length_nil]);omega);exact rfl)
 | ((with_reducible first|apply aw_seq|apply aw_region|apply thn_normal|apply thn_exit|apply inb_exit|apply aw_skip|apply aw_exit|apply aw_ret|apply ao_nil))
 | ((with_reducible first|apply r_move|apply r_assign|apply r_not);iterate 2 exact rfl)
 | ((with_reducible first|apply r_lss|apply r_gtr|apply r_build);iterate 3 exact rfl)
 | ((with_reducible apply r_len_f);exact rfl;exact inferInstance;exact rfl)
 | ((with_reducible apply r_len_v);exact rfl;exact rfl;(first|(exact av EncL.len _)|(rw [av EncL.len];first|assumption|omega|(congr 1;omega)));exact rfl)
 | (((with_reducible apply aa);exact rfl)<;>intro hg<;>(first|(exact absurd hg (by decide))|((try simp only [qz,ge_iff_le,List.cons.injEq,and_true] at hg);first|(exact absurd trivial hg)|(exfalso;omega)|(have hT:True:=hg;clear hT hg)|skip)))
 )
      all_goals exact bJ (.cons (.tmp rfl (bx rfl (by rw [av EncL.len];rw [List.length_append]))) (.cons (.tmp rfl ap) .nil))
 refine main X1 X2 Y1 Y2 ?_ c1
 rcases hax with h|h
 ·left;rw [h,if_pos rfl] at hal;injection hal with a b;exact ⟨h,a,b⟩
 ·right;rw [h,if_neg (by decide)] at hal;injection hal with a b;exact ⟨h,a,b⟩
end Go.Proofs.YtdndfncpglfdeaaGreatDoor.Tp
