/- UG UOpen: texts laid together. -/
import Derived.Test.YtdndfncpglfdeaaGreatDoorMrgX20
import Derived.Test.YtdndfncpglfdeaaGreatDoorMrgX24
import Derived.Test.YtdndfncpglfdeaaGreatDoorRows
import Derived.Test.YtdndfncpglfdeaaGreatDoorMrgO0
import Derived.ChangeSame
import Derived.LaidLaws
set_option maxRecDepth 100000

namespace Go.Proofs.YtdndfncpglfdeaaGreatDoor.Tp
set_option linter.unusedVariables false
set_option linter.unusedSimpArgs false
open Go.RowKit Go.Proofs.YtdndfncpglfdeaaGreatDoor.Ev
open Go.Proofs.YtdndfncpglfdeaaGreatDoor.Ge (Slc Dfc LL LD)
theorem TopPlan_con (l:List Slc) (d:List Dfc) (c:List Pr) (s:Sw) (r:Rt) (N:List Nd) (hl:l.length≤maxLen) (hd:d.length≤maxLen) :
  bm Tryz.prog Cu.G 3 [wdC l d c s r,fY N] (BO true) :=
 TopPlan_con0 (fun N X Y c k h1 h2 h3 h4 h5=>rpatcheck_con N X Y c k h1 h2 h3 h4 h5) l d c s r N hl hd
end Go.Proofs.YtdndfncpglfdeaaGreatDoor.Tp

namespace Go.Proofs.YtdndfncpglfdeaaGreatDoor.Tp
set_option linter.unusedVariables false
set_option linter.unusedSimpArgs false
open Go.RowKit Go.ChangeShapes Go.Proofs.YtdndfncpglfdeaaGreatDoor.Ev Go.Proofs.YtdndfncpglfdeaaGreatDoor.Ge
open Go.Proofs.YtdndfncpglfdeaaGreatDoor.Cu (I LI)
section
variable {H:Type} {de:TypeId×Value→H} {w:World}
instance:Inhabited Dfc:=⟨⟨0,(0,0),(0,0),(0,0)⟩⟩
instance:Inhabited Pr:=⟨pr0⟩
theorem o_dfc:Opn de Tryz.prog w 178 dfC (fun _=>True) :=
 (cO Tryz.underlying178 (by kernel_rfl) rfl (bu eE (dZ o_box))).imp (fun x=>(⟨x.1,x.2.1,x.2.2.1,x.2.2.2⟩:Dfc)) (fun _=>rfl) (fun _ _=>trivial)
theorem o_dfcs:Opn de Tryz.prog w 23 (fun l:List Dfc=>[LD l]) (fun l=>l.length≤maxLen) :=
 (fW (size:=7) (enc:=dfC) Tryz.underlying23 (by kernel_rfl) (by decide) (fun _=>rfl) o_dfc).imp id (fun _=>rfl) (fun _ h=>h.2)
theorem o_prod:Opn de Tryz.prog w 60 prL (fun _=>True) :=
 (cO Tryz.underlying60 (by kernel_rfl) rfl (bu (opn_string Tryz.underlying9) (bu eE (bu eE (bu eE (bu eE (bu o_ints (dZ o_ints)))))))).imp (fun x=>(⟨x.1,x.2.1,x.2.2.1,x.2.2.2.1,x.2.2.2.2.1,x.2.2.2.2.2.1,x.2.2.2.2.2.2⟩:Pr)) (fun _=>rfl) (fun _ _=>trivial)
theorem o_prods:Opn de Tryz.prog w 24 (fun l:List Pr=>[fj l]) (fun l=>l.length≤maxLen) :=
 (fW (size:=7) (enc:=prL) Tryz.underlying24 (by kernel_rfl) (by decide) (fun _=>rfl) o_prod).imp id (fun _=>rfl) (fun _ h=>h.2)
theorem o_saw:Opn de Tryz.prog w 26 swL (fun _=>True) :=
 (cO Tryz.underlying26 (by kernel_rfl) rfl (bu eE (bu eE (bu eE (dZ eE))))).imp (fun x=>(⟨x.1,x.2.1,x.2.2.1,x.2.2.2⟩:Sw)) (fun _=>rfl) (fun _ _=>trivial)
theorem o_rates:Opn de Tryz.prog w 28 rtL (fun _=>True) :=
 (cO Tryz.underlying28 (by kernel_rfl) rfl (bu eE (bu eE (dZ eE)))).imp (fun x=>(⟨x.1,x.2.1,x.2.2⟩:Rt)) (fun _=>rfl) (fun _ _=>trivial)
abbrev Wd2:=List Slc×List Dfc×List Pr×Sw×Rt
def wdL2 (x:Wd2):List CV:=wdL x.1 x.2.1 x.2.2.1 x.2.2.2.1 x.2.2.2.2
theorem o_wood:Opn de Tryz.prog w 30 wdL2 (fun x=>x.1.length≤maxLen∧x.2.1.length≤maxLen) :=
 (cO Tryz.underlying30 (by kernel_rfl) rfl (bu o_slices (bu o_dfcs (bu o_prods (bu o_saw (dZ o_rates)))))).imp (fun x=>((x.1,x.2.1,x.2.2.1,x.2.2.2.1,x.2.2.2.2):Wd2)) (fun _=>rfl) (fun _ h=>⟨h.1,h.2.1⟩)
theorem o_node:Opn de Tryz.prog w 49 ndC (fun _=>True) :=
 (cO Tryz.underlying49 (by kernel_rfl) rfl (bu eE (dZ eE))).imp (fun x=>((x.1,x.2):Nd)) (fun _=>rfl) (fun _ _=>trivial)
theorem o_nodes:Opn de Tryz.prog w 31 (fun l:List Nd=>[fY l]) (fun l=>l.length≤maxLen) :=
 (fW (size:=2) (enc:=ndC) Tryz.underlying31 (by kernel_rfl) (by decide) (fun _=>rfl) o_node).imp id (fun _=>rfl) (fun _ h=>h.2)
theorem plan_law (x:Wd2) (k:x.1.length≤maxLen∧x.2.1.length≤maxLen) (N:List Nd) (_:N.length≤maxLen):bm Tryz.prog Cu.G 3 [.agg (wdL2 x),fY N] (BO true) :=
 TopPlan_con x.1 x.2.1 x.2.2.1 x.2.2.2.1 x.2.2.2.2 N k.1 k.2
end
theorem gNone:Tryz.prog.globalNamed "sawmill/cutting.none"=some 0:=by kernel_rfl
theorem gNoneType:(Tryz.prog.globals[0]?).map (·.type)=some 78:=by kernel_rfl
theorem cellsI:Tryz.prog.cellsOf 3=1:=by kernel_rfl
theorem cellsP:Tryz.prog.cellsOf 78=2:=by kernel_rfl
theorem none_ok {W:World} (h:laidMetH Tryz.prog [("sawmill/cutting.none",Rows.laid_sawmill_cutting_none)] W):GlOK Cu.G (FwO W) W:=by
 have h':laidMet Tryz.prog [("sawmill/cutting.none",Rows.laid_sawmill_cutting_none)] W:=h
 obtain ⟨ps,⟨g',t',cs,fuel,p,q,hg',ht',hvar,hd,_,_⟩,_⟩:=h'
 obtain rfl:=Option.some.inj (gNone.symm.trans hg')
 obtain rfl:=Option.some.inj (gNoneType.symm.trans ht')
 obtain ⟨y0,y1,n,hy,hl,h0,h1⟩:=trod_struct2 Tryz.underlying78 hd
 obtain ⟨z0,hc0,rfl,_⟩:=DataW.trod_int Tryz.underlying3 h0
 obtain ⟨z1,hc1,rfl,_⟩:=DataW.trod_int Tryz.underlying3 h1
 have e0:z0=-1∧z1=-1:=by
  have:=congrArg Prod.fst hy
  simp only [Rows.laid_sawmill_cutting_none,DataW.agg.injEq,List.cons.injEq,DataW.lit.injEq,Lit.int.injEq] at this
  omega
 obtain ⟨rfl,rfl⟩:=e0
 rw [cellsP] at hl
 rw [cellsI] at hc0 hc1
 obtain ⟨cs⟩:=cs
 match cs,hl with
 | [a,b],_ =>
  obtain rfl:a=.int .i64 (-1):=by simpa using hc0
  obtain rfl:b=.int .i64 (-1):=by simpa using hc1
  have c:∀ i,i < 2→W.cell? ⟨0,0+i,none⟩=some (.int .i64 (-1)):=by
   intro i hi
   have:=World.var?_cell gNone hvar i
   rw [Nat.zero_add,this]
   match i,hi with
   | 0,_=>rfl
   | 1,_=>rfl
  intro g xs hx
  have hg:g=0∧xs=[Cu.I (-1),Cu.I (-1)]:=by
   cases g with
   | zero=>exact ⟨rfl,(Option.some.inj hx).symm⟩
   | succ g=>cases hx
  obtain ⟨rfl,rfl⟩:=hg
  refine .eptr (blk:=0) (o:=0) (off:=0) (fun _=>.int .i64 (-1)) (World.block_lt_of_cell? W _ (c 0 (by decide))) (fun i x hi=>c i ?_) (fun i x hi=>?_)
  ·have:=(List.getElem?_eq_some_iff.1 hi).1;simpa using this
  ·match i,hi with
   | 0,hi=>cases hi;exact .v _
   | 1,hi=>cases hi;exact .v _
end Go.Proofs.YtdndfncpglfdeaaGreatDoor.Tp
