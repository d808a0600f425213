/- EvOpen: texts laid together. -/
import Derived.Test.YtdndfncpglfdeaaGreatDoorMrgE3
import Derived.ProofKit
import Derived.OpenShut
import Derived.WideShapes
import Derived.Deep.Slices

namespace Go.Proofs.YtdndfncpglfdeaaGreatDoor.Ev
set_option linter.unusedVariables false
set_option linter.unusedSimpArgs false
open Go.RowKit
section
variable {H:Type} {de:TypeId×Value→H} {P:Program} {w:World}
abbrev FwO (w:World):Nat→Prop:=fun b=>b < w.heap.size
def RCs (w:World) (xs:List CV) (cs:List Value):Prop:=xs.length=cs.length∧∀ (i:Nat) (x:CV) (u:Value),xs[i]?=some x→cs[i]?=some u→RC (FwO w) w x u
def Opn {H:Type} (de:TypeId×Value→H) (P:Program) (w:World) (t:TypeId) {α:Type} (enc:α→List CV) (Q:α→Prop):Prop :=
 ∀ fuel cs y,DataW.trod de P w 0 (fun _=>true) true fuel t cs=some y→∃ x:α,RCs w (enc x) cs∧Q x
theorem RCs.one {x:CV} {u:Value} (h:RC (FwO w) w x u):RCs w [x] [u]:=⟨rfl,fun i y z hy hz=>by
 cases i with
 | zero=>simp at hy hz;subst hy;subst hz;exact h
 | succ i=>simp at hy⟩
theorem RCs.append {xs ys:List CV} {cs ds:List Value} (h:RCs w xs cs) (k:RCs w ys ds):RCs w (xs++ys) (cs++ds):=by
 refine ⟨by simp [h.1,k.1],fun i x u hx hu=>?_⟩
 rw [List.getElem?_append] at hx hu
 by_cases hi:i < xs.length
 ·rw [if_pos hi] at hx;rw [if_pos (by rw [← h.1];exact hi)] at hu
  exact h.2 i x u hx hu
 ·rw [if_neg hi] at hx;rw [if_neg (by rw [← h.1];exact hi)] at hu
  rw [← h.1] at hu
  exact k.2 _ x u hx hu
theorem RCs.agg {xs:List CV} {arr:Array Value} (h:RCs w xs arr.toList):RC (FwO w) w (.agg xs) (.agg arr) :=
 .agg (by simpa using h.1) (fun i x u hx hu=>h.2 i x u hx (by simpa using hu))
theorem Opn.imp {t:TypeId} {α β:Type} {enc:α→List CV} {enc':β→List CV} {Q:α→Prop} {Q':β→Prop} (h:Opn de P w t enc Q) (f:α→β) (he:∀ x,enc' (f x)=enc x) (hq:∀ x,Q x→Q' (f x)):Opn de P w t enc' Q':=by
 intro fuel cs y hy
 obtain ⟨x,h1,h2⟩:=h fuel cs y hy
 exact ⟨f x,by rw [he];exact h1,hq x h2⟩
theorem opn_int {t:TypeId} {k:IntKind} (ht:P.underlying t=some (.int k)):Opn de P w t (fun n:Int=>[.v (.int k n)]) (fun n=>(Lit.int k n).wf=true):=by
 intro fuel cs y hy
 obtain ⟨n,rfl,_,hw⟩:=DataW.trod_int ht hy
 exact ⟨n,RCs.one (.v _),hw⟩
theorem opn_string {t:TypeId} (ht:P.underlying t=some .string):Opn de P w t (fun b:ByteArray=>[.v (.string b)]) (fun b=>b.size≤maxLen):=by
 intro fuel cs y hy
 obtain ⟨n,rfl,_,hw⟩:=DataW.trod_string ht hy
 exact ⟨n,RCs.one (.v _),hw⟩
theorem iI {a:Addr} {n:Nat} {cs:List Value} (h:w.cells? 0 a n=some cs):cs.length=n∧∀ j,j < n→w.cell? (a.add j)=cs[j]?:=by
 unfold World.cells? at h
 rw [if_pos (Nat.zero_le _)] at h
 refine ⟨by simpa using mapM_some_length h,fun j hj=>mapM_some_get h j j (by simp [hj])⟩
theorem flat_get {α:Type} {enc:α→List CV} {size:Nat} (henc:∀ x,(enc x).length=size) (l:List α) (k j:Nat) (hj:j < size):(l.flatMap enc)[k * size+j]?=(l[k]?).bind (fun x=>(enc x)[j]?):=by
 rw [← List.getElem?_drop,ij henc]
 by_cases hk:k < l.length
 ·rw [List.drop_eq_getElem_cons hk,List.flatMap_cons,List.getElem?_append_left (by rw [henc];exact hj),List.getElem?_eq_getElem hk];rfl
 ·rw [List.drop_eq_nil_of_le (by omega),List.getElem?_eq_none (l:=l) (by omega)];simp
theorem fW {t e:TypeId} {size:Nat} {α:Type} [Inhabited α] {enc:α→List CV} {Q:α→Prop} (ht:P.underlying t=some (.slice e)) (hc:P.cellsOf e=size) (hpos:0 < size) (hlen:∀ x,(enc x).length=size) (el:Opn de P w e enc Q) :
  Opn de P w t (fun l:List α=>[.lst size (l.flatMap enc)]) (fun l=>(∀ x∈l,Q x)∧l.length≤maxLen):=by
 intro fuel cs0 y hy
 rcases Deep.open_slice ht hy with ⟨hcs,_⟩|⟨a,len,cap,m,n,D,Pl,hcs,_,hl,hm,hmm,_,hx⟩
 ·subst hcs
  exact ⟨[],RCs.one .nil,by simp,by simp⟩
 ·subst hcs
  have hmm':m=cap:=by simpa using hmm
  subst hmm'
  obtain ⟨f,hf⟩:=Deep.choose_lt (α:=α×List Value) (n:=len) (p:=fun i x=>w.cells? 0 (a.add (i * P.cellsOf e)) (P.cellsOf e)=some x.2∧RCs w (enc x.1) x.2∧Q x.1) (fun i hi=>by
   obtain ⟨cs',h1,h2⟩:=hx i (by omega)
   obtain ⟨x,h3,h4⟩:=el n cs' _ h2
   exact ⟨(x,cs'),h1,h3,h4⟩)
  refine ⟨(List.range len).map (fun i=>(f i).1),RCs.one ?_,?_,by simp;omega⟩
  ·by_cases h0:len=0
   ·subst h0
    exact .nil
   ·obtain ⟨g1,g2⟩:=iI (hf 0 (by omega)).1
    rw [hc] at g1 g2
    have c0:=g2 0 hpos
    have e0:(a.add (0 * size)).add 0=a:=by
     unfold Addr.add;simp
    rw [e0,List.getElem?_eq_getElem (by omega)] at c0
    have hsp:a.spot=none:=by
     unfold World.cell? at c0
     split at c0
     ·by_cases hs:a.spot.isSome
      ·simp [hs] at c0
      ·simpa using hs
     ·simp at c0
    have ha:a=⟨a.block,a.off,none⟩:=by cases a;simp at hsp;simp [hsp]
    have hblk:=World.block_lt_of_cell? w a c0
    have hcell:∀ i j,i < len→j < size→w.cell? ⟨a.block,a.off+(i * size+j),none⟩=(f i).2[j]?:=by
     intro i j hi hj
     obtain ⟨g3,g4⟩:=iI (hf i hi).1
     rw [hc] at g3 g4
     have:=g4 j hj
     rw [Deep.add_add,ha,Kit.addr_add] at this
     exact this
    have hfl:(((List.range len).map (fun i=>(f i).1)).flatMap enc).length=len * size:=by rw [av hlen];simp
    have hget:∀ (k:Nat) (x:CV),(((List.range len).map (fun i=>(f i).1)).flatMap enc)[k]?=some x→k / size < len∧(enc (f (k / size)).1)[k % size]?=some x:=by
     intro k x hk
     have hkl:=(List.getElem?_eq_some_iff.1 hk).1
     rw [hfl] at hkl
     have hdl:k / size < len:=(Nat.div_lt_iff_lt_mul hpos).2 hkl
     refine ⟨hdl,?_⟩
     have hml:=Nat.mod_lt k hpos
     have:=flat_get hlen ((List.range len).map (fun i=>(f i).1)) (k / size) (k % size) hml
     rw [Nat.mul_comm,Nat.div_add_mod] at this
     rw [this] at hk
     simpa [hdl] using hk
    rw [ha]
    refine .lst (fun k=>((f (k / size)).2[k % size]?).getD undef) hfl hl hblk (fun k x hk=>?_) (fun k x hk=>?_)
    ·obtain ⟨h1,h2⟩:=hget k x hk
     have hml:=Nat.mod_lt k hpos
     have:=hcell (k / size) (k % size) h1 hml
     rw [Nat.mul_comm,Nat.div_add_mod] at this
     rw [this]
     obtain ⟨g3,g4⟩:=iI (hf (k / size) h1).1
     rw [hc] at g3
     rw [List.getElem?_eq_getElem (by omega)];rfl
    ·obtain ⟨h1,h2⟩:=hget k x hk
     have hml:=Nat.mod_lt k hpos
     obtain ⟨g3,g4⟩:=iI (hf (k / size) h1).1
     rw [hc] at g3
     refine (hf (k / size) h1).2.1.2 (k % size) x _ h2 ?_
     rw [List.getElem?_eq_getElem (by omega)];rfl
  ·intro x hx'
   obtain ⟨i,hi,rfl⟩:=List.mem_map.1 hx'
   exact (hf i (by simpa using hi)).2.2
def Flds (de:TypeId×Value→H) (P:Program) (w:World) (n:Nat):List TypeId→List Value→Prop
 | [],cs=>cs=[]
 | t::ts,cs=>(∃ y,DataW.trod de P w 0 (fun _=>true) true n t (cs.take (P.cellsOf t))=some y)∧P.cellsOf t≤cs.length∧Flds de P w n ts (cs.drop (P.cellsOf t))
def offsB (P:Program):Nat→List Field→Nat→Bool
 | off,[],tot=>off == tot
 | off,f::r,tot=>f.offset == off && offsB P (off+P.cellsOf f.type) r tot
theorem offs_le:∀ {off:Nat} {l:List Field} {tot:Nat},offsB P off l tot=true→off≤tot
 | off,[],tot,h=>by simp only [offsB,beq_iff_eq] at h;omega
 | off,f::r,tot,h=>by
  simp only [offsB,Bool.and_eq_true] at h
  have:=offs_le h.2;omega
theorem flds_of {n:Nat} {cs:List Value}:∀ (l:List Field) (off:Nat),offsB P off l cs.length=true→(∀ f∈l,∃ y,DataW.trod de P w 0 (fun _=>true) true n f.type ((cs.drop f.offset).take (P.cellsOf f.type))=some y)→Flds de P w n (l.map (·.type)) (cs.drop off)
 | [],off,h,_=>by
  simp only [offsB,beq_iff_eq] at h
  show cs.drop off=[]
  rw [h];exact List.drop_eq_nil_of_le (Nat.le_refl _)
 | f::r,off,h,hf=>by
  simp only [offsB,Bool.and_eq_true,beq_iff_eq] at h
  have h1:=hf f (by simp)
  rw [h.1] at h1
  have h2:=offs_le h.2
  refine ⟨h1,by simp only [List.length_drop];omega,?_⟩
  rw [List.drop_drop]
  exact flds_of r _ h.2 (fun g hg=>hf g (by simp [hg]))
def OpnS {H:Type} (de:TypeId×Value→H) (P:Program) (w:World) (ts:List TypeId) {α:Type} (enc:α→List CV) (Q:α→Prop):Prop :=
 ∀ n cs,Flds de P w n ts cs→∃ x:α,RCs w (enc x) cs∧Q x
theorem dZ {t:TypeId} {α:Type} {e1:α→List CV} {Q1:α→Prop} (h1:Opn de P w t e1 Q1):OpnS de P w [t] e1 Q1:=by
 intro n cs ⟨⟨y,hy⟩,hle,hr⟩
 have hd:cs.drop (P.cellsOf t)=[]:=hr
 have:cs.take (P.cellsOf t)=cs:=by
  have:=List.take_append_drop (P.cellsOf t) cs
  rw [hd,List.append_nil] at this;exact this
 rw [this] at hy
 exact h1 n _ y hy
theorem bu {t:TypeId} {ts:List TypeId} {α β:Type} {e1:α→List CV} {e2:β→List CV} {Q1:α→Prop} {Q2:β→Prop} (h1:Opn de P w t e1 Q1) (h2:OpnS de P w ts e2 Q2) :
  OpnS de P w (t::ts) (fun x:α×β=>e1 x.1++e2 x.2) (fun x=>Q1 x.1∧Q2 x.2):=by
 intro n cs ⟨⟨y,hy⟩,hle,hr⟩
 obtain ⟨x1,g1,q1⟩:=h1 n _ y hy
 obtain ⟨x2,g2,q2⟩:=h2 n _ hr
 refine ⟨(x1,x2),?_,q1,q2⟩
 have:=g1.append g2
 rwa [List.take_append_drop] at this
theorem cO {t:TypeId} {fs:Array Field} {α:Type} {enc:α→List CV} {Q:α→Prop} (ht:P.underlying t=some (.struct fs)) (ho:offsB P 0 fs.toList (P.cellsOf t)=true) {ts:List TypeId} (hts:fs.toList.map (·.type)=ts) (hS:OpnS de P w ts enc Q):Opn de P w t enc Q:=by
 intro fuel cs y hy
 obtain ⟨xs,n,_,_,hl,hx,he⟩:=DataW.trod_struct ht hy
 refine hS n cs ?_
 rw [← hts]
 have:=flds_of (de:=de) (P:=P) (w:=w) (n:=n) (cs:=cs) fs.toList 0 (by rw [hl];exact ho) (fun f hf=>by
  obtain ⟨i,hi,hfe⟩:=List.mem_iff_getElem.1 hf
  have hi':i < fs.size:=by simpa using hi
  have hfi:fs[i]?=some f:=by rw [← hfe];simp [hi']
  have:=he i f hfi
  rw [List.getElem?_eq_getElem (by omega)] at this
  exact ⟨_,this⟩)
 simpa using this
theorem open_agg {r:Reach} {base:Nat} {t:TypeId} {v:Value} {d:DataW H} {ps:List MemPlace} {α:Type} {enc:α→List CV} {Q:α→Prop} (ho:Opn de P w t enc Q) (hag:∃ cs,v=.agg cs) (h:DataW.Trod de P w 0 (fun _=>true) true t v d ps):∃ x:α,RC (FwO w) w (.agg (enc x)) v∧Q x:=by
 obtain ⟨cs,rfl⟩:=hag
 obtain ⟨fuel,hf⟩:=h
 obtain ⟨x,h1,h2⟩:=ho fuel _ _ hf
 exact ⟨x,RCs.agg h1,h2⟩
theorem open_one {t:TypeId} {v:Value} {d:DataW H} {ps:List MemPlace} {α:Type} {c:α→CV} {Q:α→Prop} (ho:Opn de P w t (fun x=>[c x]) Q) (hv:v.cells.toList=[v]) (h:DataW.Trod de P w 0 (fun _=>true) true t v d ps):∃ x:α,RC (FwO w) w (c x) v∧Q x:=by
 obtain ⟨fuel,hf⟩:=h
 obtain ⟨x,h1,h2⟩:=ho fuel _ _ hf
 rw [hv] at h1
 exact ⟨x,h1.2 0 _ _ rfl rfl,h2⟩
theorem agg_struct {r:Reach} {base:Nat} {t:TypeId} {v:Value} {fs:Array Field} (ht:P.underlying t=some (.struct fs)) (ok:Value.okWide P w r base t v):∃ cs,v=.agg cs:=by
 obtain ⟨cs,h,_⟩:=WideShapes.okWide_struct ht ok
 exact ⟨cs,h⟩
theorem one_slice {r:Reach} {base:Nat} {t e:TypeId} {v:Value} (ht:P.underlying t=some (.slice e)) (ok:Value.okWide P w r base t v):v.cells.toList=[v]:=by
 obtain ⟨a,n,c,rfl⟩:=WideShapes.okWide_slice ht ok;rfl
theorem con_law {gl:List (Nat×List CV)} {f:FuncId} {xs:List CV} {vals:Array Value} {b:Bool} (h:bm P gl f xs (.v (.bool b))) (hgl:GlOK gl (FwO w) w) (ha:RCs w xs vals.toList):Calls P f vals w fun e w'=>e=.returned (.bool b)∧Below w.heap.size w w':=by
 refine Calls.mono (h.2 w (FwO w) vals (fun _ h=>h) hgl (by simpa using ha.1) (fun i x u hx hu=>ha.2 i x u hx (by simpa using hu))) ?_
 rintro e w' ⟨v,rfl,hb,hv⟩
 cases hv
 exact ⟨rfl,hb⟩
end
end Go.Proofs.YtdndfncpglfdeaaGreatDoor.Ev
