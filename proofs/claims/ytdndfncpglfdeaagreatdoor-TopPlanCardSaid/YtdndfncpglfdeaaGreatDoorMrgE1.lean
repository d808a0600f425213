/- Ev5 Ev6 Ev7 Ev8 Ev10: texts laid together. -/
import Derived.Test.YtdndfncpglfdeaaGreatDoorMrgE0
import Derived.Great.FillDense
import Derived.Great.BuildSlice
import Derived.StillTail

namespace Go.Proofs.YtdndfncpglfdeaaGreatDoor.Ev
set_option linter.unusedVariables false
set_option linter.unusedSimpArgs false
open Go.RowKit
def Wd.set (M:Wd) (st:St) (b:Nat) (x:AB) (c:Conc) (w:World):Wd:={ m:=fun k=>if k=b then c else M.m k,H:=(st.set b x).H,nx:=M.nx,F:=M.F,w:=w,fp:=M.fp }
section
variable {base:Nat} {w0:W0} {st:St} {M:Wd} {a:Act}
theorem gj (w:World) (g:Nat) (cs:Array Value) (b:Nat) (h:b≠g):(w.setRow g cs).heap[b]?=w.heap[b]?:=by
 simp only [World.setRow,Array.getElem?_modify]
 rw [if_neg (Ne.symm h)]
theorem setRow_size (w:World) (g:Nat) (cs:Array Value):(w.setRow g cs).heap.size=w.heap.size:=by simp [World.setRow]
theorem Sim.change (hs:Sim base w0 st M a) {b:Nat} {x:AB} {c:Conc} {w':World} (hb:M.H b≠none)
  (hw:∀ k,k < M.w.heap.size→(M.m b).block≠some k→w'.heap[k]?=M.w.heap[k]?) (hsz:M.w.heap.size≤w'.heap.size) (hos:w'.os=M.w.os) (htape:w'.tape=M.w.tape) (hout:w'.output=M.w.output)
  (hbase:∀ k,(M.m b).block=some k→base≤k)
  (hcb:∀ k,c.block=some k→(M.m b).block=some k∨M.w.heap.size≤k)
  (hnF:∀ k,(M.m b).block=some k→¬ M.F k)
  (hm:∀ g,M.m b=.blk g→c=.blk g)
  (hv:∀ E size l',x=.vec E size l'→∃ l,M.H b=some (.vec E size l)∧l.length≤l'.length∧(l'.length=l.length→c=M.m b))
  (hcells:∀ M',Ext M M'→M'.w=w'→M'.F=M.F→∀ t l,x=.cells t l→∃ (g:Nat) (arr:Array Value),c=.blk g∧base≤g∧w'.heap[g]?=some (.cells arr t (0,0))∧l.length=arr.size∧∀ (i:Nat) (y:AV) (u:Value),l[i]?=some y→arr[i]?=some u→RA M' y u)
  (hvec:∀ E size l,x=.vec E size l→∃ (v:Value) (n:Nat) (cs:List Value),c=.row v∧l.length=n * size∧0 < size∧w'.ownsRow base E size v n cs∧∀ (i:Nat) (y:CV) (u:Value),l[i]?=some y→cs[i]?=some u→RC M.F w' y u) (hno:∀ p,x≠.obj p:=by intro p h;cases h) :
  Sim base w0 (st.set b x) (M.set st b x c w') a∧Ext M (M.set st b x c w'):=by
 have hF:∀ k,M.F k→M.F k∧w'.heap[k]?=M.w.heap[k]?:=fun k hk=>⟨hk,hw k (hs.heap.frz k hk) (fun he=>hnF k he hk)⟩
 have hH:∀ k,(M.set st b x c w').H k=if b=k then some x else M.H k:=fun k=>by
  show (st.set b x).H k=_
  rw [H_set,hs.H]
 have hm1:(M.set st b x c w').m b=c:=by simp [Wd.set]
 have hm2:∀ k,k≠b→(M.set st b x c w').m k=M.m k:=fun k hk=>by simp [Wd.set,hk]
 have hext:Ext M (M.set st b x c w'):=by
  refine ⟨fun k g hk=>?_,fun k E size l' hk hl=>?_,Nat.le_refl _,hF⟩
  ·by_cases h:k=b
   ·subst h;rw [hm1];exact hm g hk
   ·rw [hm2 k h];exact hk
  ·rw [hH] at hl
   by_cases h:b=k
   ·subst h
    rw [if_pos rfl] at hl
    simp only [Option.some.injEq] at hl
    obtain ⟨l,e1,e2,e3⟩:=hv E size l' hl
    exact ⟨l,e1,e2,fun hh=>by rw [hm1];exact e3 hh⟩
   ·rw [if_neg h] at hl
    exact ⟨l',hl,Nat.le_refl _,fun _=>hm2 k (Ne.symm h)⟩
 have hlt:b < M.nx:=hs.heap.lt b hb
 refine ⟨⟨rfl,hs.nx,hs.n,fun i y hy=>?_,fun g xs hg=>(hs.gl g xs hg).mono hext,⟨?_,?_,?_,?_,?_,?_,?_⟩,?_,?_,hs.defs,hs.old⟩,hext⟩
 ·obtain ⟨v,h1,h2⟩:=hs.env i y hy
  exact ⟨v,h1,h2.mono hext⟩
 ·intro k t l hl
  rw [hH] at hl
  by_cases h:b=k
  ·subst h
   rw [if_pos rfl] at hl
   simp only [Option.some.injEq] at hl
   obtain ⟨g,arr,e1,e2,e3,e4,e5⟩:=hcells _ hext rfl rfl t l hl
   refine ⟨g,arr,by rw [hm1];exact e1,e2,fun hf=>?_,e3,e4,e5⟩
   rcases hcb g (by rw [e1];rfl) with h1|h1
   ·exact hnF g h1 hf
   ·exact absurd (hs.heap.frz g hf) (by omega)
  ·rw [if_neg h] at hl
   obtain ⟨g,arr,e1,e2,e3,e4,e5,e6⟩:=hs.heap.cells k t l hl
   refine ⟨g,arr,by rw [hm2 k (Ne.symm h)];exact e1,e2,e3,?_,e5,fun i y u h1 h2=>(e6 i y u h1 h2).mono hext⟩
   show w'.heap[g]?=_
   rw [hw g (Array.getElem?_eq_some_iff.1 e4).1 (hs.heap.sep k b g (Ne.symm h) (by rw [hl];simp) hb (by rw [e1];rfl))]
   exact e4
 ·intro k E size l hl
  rw [hH] at hl
  by_cases h:b=k
  ·subst h
   rw [if_pos rfl] at hl
   simp only [Option.some.injEq] at hl
   obtain ⟨v,n,cs,e1,e2,e3,e4,e5⟩:=hvec E size l hl
   refine ⟨v,n,cs,by rw [hm1];exact e1,e2,e3,e4,e5,fun g hg hf=>?_⟩
   rcases hcb g (by rw [e1];exact hg) with h1|h1
   ·exact hnF g h1 hf
   ·exact absurd (hs.heap.frz g hf) (by omega)
  ·rw [if_neg h] at hl
   obtain ⟨v,n,cs,e1,e2,e3,e4,e5,e6⟩:=hs.heap.vec k E size l hl
   refine ⟨v,n,cs,by rw [hm2 k (Ne.symm h)];exact e1,e2,e3,?_,fun i y u h1 h2=>(e5 i y u h1 h2).mono hF,e6⟩
   obtain ⟨f1,f2⟩:=e4
   refine ⟨f1,?_⟩
   rcases f2 with f2|⟨g,cap,cur,rfl,g1,g2,g3⟩
   ·exact Or.inl f2
   ·refine Or.inr ⟨g,cap,cur,rfl,g1,?_,g3⟩
    show w'.heap[g]?=_
    rw [hw g (Array.getElem?_eq_some_iff.1 g2).1 (hs.heap.sep k b g (Ne.symm h) (by rw [hl];simp) hb (by rw [e1];rfl))]
    exact g2
 ·intro k k' g hkk hk hk' hg hg'
  rw [hH] at hk hk'
  have hne:∀ q,q≠b→(if b=q then some x else M.H q)≠none→M.H q≠none:=fun q hq hn=>by rwa [if_neg (Ne.symm hq)] at hn
  by_cases h1:k=b
  ·subst h1
   rw [hm1] at hg
   rw [hm2 k' (Ne.symm hkk)] at hg'
   have hk2:=hne k' (Ne.symm hkk) hk'
   rcases hcb g hg with h2|h2
   ·exact hs.heap.sep k k' g hkk hb hk2 h2 hg'
   ·have:=fM hs.heap hk2 hg';omega
  ·by_cases h2:k'=b
   ·subst h2
    rw [hm1] at hg'
    rw [hm2 k h1] at hg
    have hk2:=hne k h1 hk
    rcases hcb g hg' with h3|h3
    ·exact hs.heap.sep k k' g hkk hk2 hb hg h3
    ·have:=fM hs.heap hk2 hg;omega
   ·rw [hm2 k h1] at hg
    rw [hm2 k' h2] at hg'
    exact hs.heap.sep k k' g hkk (hne k h1 hk) (hne k' h2 hk') hg hg'
 ·intro k hk
  rw [hH] at hk
  show k < M.nx
  by_cases h1:b=k
  ·omega
  ·rw [if_neg h1] at hk;exact hs.heap.lt k hk
 ·intro k hk g
  have hk:M.nx≤k:=hk
  rw [hm2 k (by omega)]
  exact hs.heap.fresh k hk g
 ·intro k hk
  show k < w'.heap.size
  have:=hs.heap.frz k hk;omega
 ·intro k p hp
  rw [hH] at hp
  by_cases h1:b=k
  ·rw [if_pos h1,Option.some.injEq] at hp;exact absurd hp (hno p)
  rw [if_neg h1] at hp
  obtain ⟨g,e1,e2,e3,e4,e5⟩:=hs.heap.obj k p hp
  refine ⟨g,by rw [hm2 k (Ne.symm h1)];exact e1,e2,p.stable _ _ _ _ _ _ e3 hF (fun q hq=>hw q (e4 q hq).2.1 ((e5 b q h1 hq).1 hb)),fun q hq=>⟨(e4 q hq).1,Nat.lt_of_lt_of_le (e4 q hq).2.1 hsz,(e4 q hq).2.2⟩,fun b' q hbb hq=>⟨fun hb'=>?_,fun p' hp'=>?_⟩⟩
  ·by_cases h2:b'=b
   ·subst h2
    rw [hm1]
    intro hc'
    rcases hcb q hc' with h3|h3
    ·exact (e5 b' q hbb hq).1 hb h3
    ·have:=(e4 q hq).2.1;omega
   ·rw [hH,if_neg (Ne.symm h2)] at hb'
    rw [hm2 b' h2]
    exact (e5 b' q hbb hq).1 hb'
  ·rw [hH] at hp'
   by_cases h2:b=b'
   ·rw [if_pos h2,Option.some.injEq] at hp';exact absurd hp' (hno p')
   ·rw [if_neg h2] at hp'
    exact (e5 b' q hbb hq).2 p' hp'
 ·refine ⟨hos.trans hs.below.os,htape.trans hs.below.tape,hout.trans hs.below.output,Nat.le_trans hs.below.size hsz,fun k hk=>?_⟩
  show w'.heap[k]?=_
  have hb1:=hs.base
  rw [hw k (by omega) (fun he=>by have:=hbase k he;omega)]
  exact hs.below.block k hk
 ·exact Nat.le_trans hs.base hsz
end
section
variable {P:Program} {ops:Array Oper} {Q:Exit→St→Prop} {rest:List Oper} {st:St} {d:Nat} {ty:TypeId} {pos:String} {af:Array Edge}
theorem run_store_row {t n:Nat} {ag:Bool} (I:TyC P t ag n) (w:World) (g o:Nat) (T:TypeId) (cur:Array Value) (v:Value) (hg:w.heap[g]?=some (.cells cur T (0,0))) (hn:v.cells.size=n) (hl:o+n≤cur.size) (h1:∀ u∈v.cells.toList,u.oneCell'=true) :
  (Instr.storeAt t (.pointer (some ⟨g,o,none⟩)) v).run P w=.ok () (w.setRow g (cur.toList.take o++v.cells.toList++cur.toList.drop (o+n)).toArray):=by
 obtain ⟨d,i,e1,e2,e3,e4⟩:=I.out
 have:=run_storeCells_at (P:=P) g o T v.cells.toList 0 cur w hg (by simp;omega) h1
 simp only [Nat.add_zero,Array.length_toList,hn] at this
 simp [Instr.storeAt,Instr.sureAddr,storeVar,sizeOf,typeInfo,e3,e4,hn,this]
theorem dc {α:Type} (cur vs:List α) (o n i:Nat) (hn:vs.length=n) (hl:o+n≤cur.length):(cur.take o++vs++cur.drop (o+n))[i]?=if i < o then cur[i]? else if i < o+n then vs[i - o]? else cur[i]?:=by
 by_cases h1:i < o
 ·rw [if_pos h1,List.append_assoc,List.getElem?_append_left (by simp;omega),List.getElem?_take_of_lt h1]
 ·rw [if_neg h1]
  by_cases h2:i < o+n
  ·rw [if_pos h2,List.append_assoc,List.getElem?_append_right (by simp;omega),List.getElem?_append_left (by simp;omega)]
   congr 1
   simp;omega
  ·rw [if_neg h2,List.getElem?_append_right (by simp;omega),List.getElem?_drop]
   congr 1
   simp;omega
def bA {α:Type} (l ys:List α) (off:Nat):List α:=l.take off++ys++l.drop (off+ys.length)
theorem store_p {base:Nat} {w0:W0} {M:Wd} {a:Act} {t n b off g:Nat} {ag:Bool} {t':TypeId} {l ys:List AV} {v:Value} (I:TyC P t ag n) (hs:Sim base w0 st M a) (hH:st.H b=some (.cells t' l)) (hm:M.m b=.blk g)
  (hn:ys.length=n) (hl:off+n≤l.length) (hsz:v.cells.size=n) (hone:∀ u∈v.cells.toList,u.oneCell'=true) (hr:∀ (i:Nat) (y:AV) (u:Value),ys[i]?=some y→v.cells[i]?=some u→RA M y u) :
  ∃ w' M',(Instr.storeAt t (.pointer (some ⟨g,off,none⟩)) v).run P M.w=.ok () w'∧M'.w=w'∧Sim base w0 (st.set b (.cells t' (bA l ys off))) M' a∧Ext M M':=by
 have hb:M.H b=some (.cells t' l):=by rw [hs.H];exact hH
 obtain ⟨g',arr,e1,e2,e3,e4,e5,e6⟩:=hs.heap.cells b t' l hb
 rw [hm] at e1;cases e1
 refine ⟨_,M.set st b (.cells t' (bA l ys off)) (.blk g) (M.w.setRow g (arr.toList.take off++v.cells.toList++arr.toList.drop (off+n)).toArray),run_store_row I M.w g off t' arr v e4 hsz (by omega) hone,rfl,?_⟩
 refine hs.change (by rw [hb];simp) (fun k hk hne=>gj _ _ _ _ (fun he=>hne (by rw [hm,he];rfl))) (by rw [setRow_size];exact Nat.le_refl _) rfl rfl rfl (fun k hk=>?_) (fun k hk=>Or.inl (by rw [hm];exact hk)) (fun k hk=>?_) (fun g' hg'=>by rw [hm] at hg';cases hg';rfl) (fun E size l' h=>by cases h) ?_ (fun E size l' h=>by cases h)
 ·rw [hm] at hk;simp only [Conc.block,Option.some.injEq] at hk;omega
 ·rw [hm] at hk;simp only [Conc.block,Option.some.injEq] at hk;subst hk;exact e3
 ·intro M' hext hw' hF' t2 l2 h2
  simp only [AB.cells.injEq] at h2
  obtain ⟨rfl,rfl⟩:=h2
  refine ⟨g,_,rfl,e2,setRow_heap _ _ _ _ _ _ e4,?_,fun i y u hy hu=>?_⟩
  ·simp [bA,hn,hsz,e5]
  ·rw [bA,dc l ys off ys.length i rfl (by omega)] at hy
   rw [List.getElem?_toArray,dc arr.toList v.cells.toList off n i (by simpa using hsz) (by simp;omega)] at hu
   rw [hn] at hy
   split at hy
   ·rename_i h1;rw [if_pos h1] at hu;exact (e6 i y u hy (by simpa using hu)).mono hext
   ·rename_i h1;rw [if_neg h1] at hu
    split at hy
    ·rename_i h2;rw [if_pos h2] at hu;exact (hr _ y u hy (by simpa using hu)).mono hext
    ·rename_i h2;rw [if_neg h2] at hu;exact (e6 i y u hy (by simpa using hu)).mono hext
theorem iZ {x z:Operand} {t:TypeId} {s2:St} (hrun:∀ base w0 M a,Sim base w0 st M a→∃ w' M',(Instr.storeAt t (a.eval x) (a.eval z)).run P M.w=.ok () w'∧M'.w=w'∧Sim base w0 s2 M' a∧Ext M M')
  (h:aP P ops Q rest s2):aP P ops Q (⟨none,.store t x z,ty,pos,af,none⟩::rest) st:=by
 intro base w0 M a hs
 obtain ⟨w',M',h1,h2,h3,h4⟩:=hrun base w0 M a hs
 refine wl_skip (w':=w') rfl ?_ ?_
 ·simp only [execOp]
  rw [Sem.run_bind,h1];rfl
 ·subst h2
  exact aM (fun e a w=>bN.ext h4) _ _ _ (h base w0 M' a h3)
theorem iN {x z:Operand} {t n b off:Nat} {ag:Bool} {t':TypeId} {l:List AV} {y:AV} [I:TyC P t ag n] (hx:st.ev x=some (.ptr b off)) (hz:st.ev z=some y) (hc:y.cellB=true) (h1:n=1) (hH:st.H b=some (.cells t' l)) (hl:Nat.blt off l.length=true)
  (h:aP P ops Q rest (st.set b (.cells t' (l.set off y)))):aP P ops Q (⟨none,.store t x z,ty,pos,af,none⟩::rest) st:=by
 have hlt:=ba hl
 have e:l.set off y=bA l [y] off:=by
  unfold bA
  rw [List.set_eq_take_append_cons_drop,if_pos hlt]
  simp
 rw [e] at h
 refine iZ (fun base w0 M a hs=>?_) h
 have hv:=hs.ev hx
 have hu:=hs.ev hz
 have ho:=hu.one hc
 generalize he:a.eval x=u at hv
 cases hv with
 | ptr hm =>
  refine store_p I hs hH hm (by simp [h1]) (by omega) (by rw [dQ ho,h1];rfl) (by rw [dQ ho];simpa using ho) (fun i y' u' h2 h3=>?_)
  rw [dQ ho] at h3
  cases i with
  | zero=>simp at h2 h3;subst h2;subst h3;exact hu
  | succ i=>simp at h2
theorem gF {x z:Operand} {t n b off:Nat} {ag:Bool} {t':TypeId} {l ys:List AV} [I:TyC P t ag n] (hx:st.ev x=some (.ptr b off)) (hz:st.ev z=some (.agg ys)) (hc:ys.all AV.cellB=true) (h1:ys.length=n) (hH:st.H b=some (.cells t' l)) (hl:Nat.ble (off+n) l.length=true)
  (h:aP P ops Q rest (st.set b (.cells t' (bA l ys off)))):aP P ops Q (⟨none,.store t x z,ty,pos,af,none⟩::rest) st:=by
 have hle:=Nat.le_of_ble_eq_true hl
 refine iZ (fun base w0 M a hs=>?_) h
 have hv:=hs.ev hx
 have hu:=hs.ev hz
 generalize he:a.eval x=u at hv
 generalize he2:a.eval z=u2 at hu
 cases hv with
 | ptr hm =>
  cases hu with
  | agg hl2 hh =>
   rename_i vs
   refine store_p I hs hH hm h1 (by omega) (by simp only [Value.cells];omega) (fun u hu=>?_) (fun i y' u' h2 h3=>hh i y' u' h2 h3)
   simp only [Value.cells] at hu
   obtain ⟨i,hi,rfl⟩:=List.mem_iff_getElem.1 hu
   have hi2:i < ys.length:=by rw [hl2];simpa using hi
   have:=hh i ys[i] vs[i] (by simp [hi2]) (by simp)
   refine this.one ?_
   exact List.all_eq_true.1 hc _ (List.getElem_mem hi2)
end
end Go.Proofs.YtdndfncpglfdeaaGreatDoor.Ev

namespace Go.Proofs.YtdndfncpglfdeaaGreatDoor.Ev
set_option linter.unusedVariables false
set_option linter.unusedSimpArgs false
open Go.RowKit
def cl (H:Nat→Option AB):AV→CV→Prop
 | .c x,z=>x=z∨(x=.v (.slice none 0 0)∧∃ s,z=.lst s [])
 | .agg xs,.agg zs=>clL H xs zs
 | .tup xs,.tup zs=>clL H xs zs
 | .vec b n,.lst s l=>(∃ E,H b=some (.vec E s l))∧l.length=n * s
 | _,_=>False
 where clL (H:Nat→Option AB):List AV→List CV→Prop
 | [],[]=>True
 | x::xs,z::zs=>cl H x z∧clL H xs zs
 | _,_=>False
theorem bj {H:Nat→Option AB}:cl.clL H [] []:=trivial
theorem al {H:Nat→Option AB} {x:AV} {xs:List AV} {z:CV} {zs:List CV} (h:cl H x z) (hs:cl.clL H xs zs):cl.clL H (x::xs) (z::zs):=⟨h,hs⟩
theorem ap {H:Nat→Option AB} {x:CV}:cl H (.c x) x:=Or.inl rfl
theorem bP {H:Nat→Option AB} {s:Nat}:cl H (.c (.v (.slice none 0 0))) (.lst s []):=Or.inr ⟨rfl,s,rfl⟩
theorem cl_agg {H:Nat→Option AB} {xs:List AV} {zs:List CV} (h:cl.clL H xs zs):cl H (.agg xs) (.agg zs):=h
theorem bx {H:Nat→Option AB} {b n E s:Nat} {l:List CV} (h:H b=some (.vec E s l)) (hn:l.length=n * s):cl H (.vec b n) (.lst s l):=⟨⟨E,h⟩,hn⟩
theorem gG {H:Nat→Option AB}:∀ {xs:List AV} {zs:List CV},cl.clL H xs zs→xs.length=zs.length∧∀ (i:Nat) (x:AV) (z:CV),xs[i]?=some x→zs[i]?=some z→cl H x z
 | [],[],_=>⟨rfl,fun i x z h=>by simp at h⟩
 | x::xs,z::zs,⟨h1,h2⟩=>by
  obtain ⟨e1,e2⟩:=gG h2
  refine ⟨by simp [e1],fun i x' z' h3 h4=>?_⟩
  cases i with
  | zero=>simp at h3 h4;subst h3;subst h4;exact h1
  | succ i=>exact e2 i x' z' (by simpa using h3) (by simpa using h4)
 | [],_::_,h=>h.elim
 | _::_,[],h=>h.elim
theorem il {M:Wd} {base:Nat} (hok:HeapOK M base) {F':Nat→Prop} (hF:∀ b,M.F b→F' b) {H:Nat→Option AB} (hH:∀ b E s l,H b=some (.vec E s l)→M.H b=some (.vec E s l)∧∀ g,(M.m b).block=some g→F' g)
  {y:AV} {u:Value} (h:RA M y u):∀ {z:CV},cl H y z→RC F' M.w z u:=by
 induction h with
 | c h =>
  intro z hz
  rcases hz with rfl|⟨rfl,s,rfl⟩
  ·exact h.mono (fun b hb=>⟨hF b hb,rfl⟩)
  ·cases h;exact .nil
 | agg hl _ ih =>
  intro z hz
  cases z with
  | agg zs =>
   obtain ⟨e1,e2⟩:=gG hz
   refine .agg (by rw [← e1,hl]) (fun i x u hx hu=>?_)
   have hi:i < zs.length:=(List.getElem?_eq_some_iff.1 hx).1
   obtain ⟨y,hy⟩:∃ y,_=some y:=⟨_,List.getElem?_eq_getElem (by rw [e1];exact hi)⟩
   exact ih i y u hy hu (e2 i y x hy hx)
  | _=>exact hz.elim
 | tup hl _ ih =>
  intro z hz
  cases z with
  | tup zs =>
   obtain ⟨e1,e2⟩:=gG hz
   refine .tup (by rw [← e1,hl]) (fun i x u hx hu=>?_)
   have hi:i < zs.length:=(List.getElem?_eq_some_iff.1 hx).1
   obtain ⟨y,hy⟩:∃ y,_=some y:=⟨_,List.getElem?_eq_getElem (by rw [e1];exact hi)⟩
   exact ih i y u hy hu (e2 i y x hy hx)
  | _=>exact hz.elim
 | ptr _=>intro z hz;cases z<;>exact hz.elim
 | vptr _ _ _=>intro z hz;cases z<;>exact hz.elim
 | eptr _ _ _ _=>intro z hz;cases z<;>exact hz.elim
 | fn _ _ _=>intro z hz;cases z<;>exact hz.elim
 | ghost _ _ _=>intro z hz;cases z<;>exact hz.elim
 | ref _ _=>intro z hz;cases z<;>exact hz.elim
 | vec hb ho hv =>
  rename_i b n v
  intro z hz
  cases z with
  | lst s l =>
   obtain ⟨⟨E,h1⟩,h2⟩:=hz
   obtain ⟨h3,h4⟩:=hH b E s l h1
   obtain ⟨_,h5⟩:=hv E s l h3
   obtain ⟨v',n',cs,e1,e2,e3,e4,e5,e6⟩:=hok.vec b E s l h3
   rw [h5 h2] at e1 h4
   cases e1
   have hnn:n=n':=Nat.eq_of_mul_eq_mul_right e3 (by rw [← h2,e2])
   subst hnn
   rcases e4.2 with ⟨rfl,hn0⟩|⟨g,cap,cur,rfl,f1,f2,f3,f4,f5,f6⟩
   ·subst hn0
    have:l=[]:=List.eq_nil_of_length_eq_zero (by simpa using h2)
    subst this
    exact .nil
   ·refine .lst (fun i=>cs.getD i undef) h2 f3 (h4 g rfl) (fun i x hx=>?_) (fun i x hx=>?_)
    ·have hi:i < cs.length:=by rw [e4.1,← e2];exact (List.getElem?_eq_some_iff.1 hx).1
     have:=World.ownsRow.cells e4 (g:=g) rfl i cs[i] (by simp [hi])
     rw [Kit.addr_add] at this
     rw [this]
     simp [List.getD,hi]
    ·have hi:i < cs.length:=by rw [e4.1,← e2];exact (List.getElem?_eq_some_iff.1 hx).1
     have:=e5 i x cs[i] hx (by simp [hi])
     rw [show cs.getD i undef=cs[i] by simp [List.getD,hi]]
     exact this.mono (fun b hb=>⟨hF b hb,rfl⟩)
  | _=>exact hz.elim
def GlOK (gl:List (Nat×List CV)) (F:Nat→Prop) (w:World):Prop:=∀ g xs,bf g gl=some xs→RA { m:=fun _=>.row undef,H:=fun _=>none,nx:=0,F:=F,w:=w,fp:=fun _ _=>False } (.eptr xs 0) (.pointer (some ⟨g,0,none⟩))
def bB (P:Program) (f:FuncId):Bool:=match P.funcs[f]? with|some fn=>!(fn.name == "runtime.NumGoroutine") && fn.body.isSome|none=>false
def bm (P:Program) (gl:List (Nat×List CV)) (f:FuncId) (args:List CV) (r:CV):Prop :=
 bB P f=true∧∀ (w:World) (F:Nat→Prop) (vals:Array Value),(∀ b,F b→b < w.heap.size)→GlOK gl F w→args.length=vals.size→(∀ (i:Nat) (x:CV) (u:Value),args[i]?=some x→vals[i]?=some u→RC F w x u) →
  Calls P f vals w fun e w'=>∃ v,e=.returned v∧Below w.heap.size w w'∧RC (fun b=>F b∨(w.heap.size≤b∧b < w'.heap.size)) w' r v
def aZ:CV→AV
 | .agg xs=>.agg (xs.map .c)
 | x=>.c x
def ofC:CV→AV
 | .tup xs=>.tup (xs.map aZ)
 | x=>aZ x
theorem ofC1 {M:Wd} {x:CV} {u:Value} (h:RC M.F M.w x u):RA M (aZ x) u:=by
 cases h with
 | agg hl hh =>
  refine .agg (by simpa using hl) (fun i y u hy hu=>?_)
  obtain ⟨z,h1,rfl⟩:∃ z,_=some z∧AV.c z=y:=by simpa using hy
  exact .c (hh i z u h1 hu)
 | v=>exact .c (.v _)
 | tup hl hh=>exact .c (.tup hl hh)
 | nil=>exact .c .nil
 | e0=>exact .c .e0
 | lst cs a b c d e=>exact .c (.lst cs a b c d e)
theorem RA.ofC {M:Wd} {x:CV} {u:Value} (h:RC M.F M.w x u):RA M (Ev.ofC x) u:=by
 cases h with
 | agg hl hh=>exact ofC1 (.agg hl hh)
 | tup hl hh =>
  refine .tup (by simpa using hl) (fun i y u hy hu=>?_)
  obtain ⟨z,h1,rfl⟩:∃ z,_=some z∧aZ z=y:=by
   simp only [List.getElem?_map,Option.map_eq_some_iff] at hy
   exact hy
  exact ofC1 (hh i z u h1 hu)
 | v=>exact .c (.v _)
 | nil=>exact .c .nil
 | e0=>exact .c .e0
 | lst cs a b c d e=>exact .c (.lst cs a b c d e)
def evs (st:St):List Operand→Option (List AV)
 | []=>some []
 | x::l=>match st.ev x,evs st l with|some y,some ys=>some (y::ys)|_,_=>none
theorem dN {st:St}:∀ {l:List Operand} {ys:List AV},evs st l=some ys→l.length=ys.length∧∀ (i:Nat) (x:Operand) (y:AV),l[i]?=some x→ys[i]?=some y→st.ev x=some y
 | [],ys,h=>by simp only [evs,Option.some.injEq] at h;subst h;exact ⟨rfl,fun i x y h=>by simp at h⟩
 | x::l,ys,h=>by
  simp only [evs] at h
  split at h
  ·rename_i y ys' h1 h2
   simp only [Option.some.injEq] at h;subst h
   obtain ⟨e1,e2⟩:=dN h2
   refine ⟨by simp [e1],fun i x' y' h3 h4=>?_⟩
   cases i with
   | zero=>simp at h3 h4;subst h3;subst h4;exact h1
   | succ i=>exact e2 i x' y' (by simpa using h3) (by simpa using h4)
  ·cases h
def Wd.after (M:Wd) (w':World):Wd:={ M with F:=fun b=>M.F b∨(M.w.heap.size≤b∧b < w'.heap.size),w:=w' }
theorem Ext.after {M:Wd} {w':World} (hb:Below M.w.heap.size M.w w') (hf:∀ b,M.F b→b < M.w.heap.size):Ext M (M.after w') where
 m:=fun _ _ h=>h
 v:=fun b E size l' _ h=>⟨l',h,Nat.le_refl _,fun _=>rfl⟩
 nx:=Nat.le_refl _
 F:=fun b h=>⟨Or.inl h,hb.block b (hf b h)⟩
theorem Sim.after {base:Nat} {w0:W0} {st:St} {M:Wd} {a:Act} {w':World} (hs:Sim base w0 st M a) (hb:Below M.w.heap.size M.w w'):Sim base w0 st (M.after w') a:=by
 have hext:=Ext.after hb hs.heap.frz
 refine ⟨hs.H,hs.nx,hs.n,fun i y hy=>?_,fun g xs hg=>(hs.gl g xs hg).mono hext,⟨?_,?_,hs.heap.sep,hs.heap.lt,hs.heap.fresh,?_,?_⟩,hs.below.trans (hb.mono hs.base),Nat.le_trans hs.base hb.size,hs.defs,fun b hf hlt=>?_⟩
 ·obtain ⟨v,h1,h2⟩:=hs.env i y hy
  exact ⟨v,h1,h2.mono hext⟩
 ·intro b t l hl
  obtain ⟨g,arr,e1,e2,e3,e4,e5,e6⟩:=hs.heap.cells b t l hl
  have hg:=(Array.getElem?_eq_some_iff.1 e4).1
  refine ⟨g,arr,e1,e2,fun hf=>?_,by show w'.heap[g]?=_;rw [hb.block g hg];exact e4,e5,fun i y u h1 h2=>(e6 i y u h1 h2).mono hext⟩
  rcases hf with hf|hf
  ·exact e3 hf
  ·omega
 ·intro b E size l hl
  obtain ⟨v,n,cs,e1,e2,e3,e4,e5,e6⟩:=hs.heap.vec b E size l hl
  refine ⟨v,n,cs,e1,e2,e3,?_,fun i y u h1 h2=>(e5 i y u h1 h2).mono hext.F,fun g hg hf=>?_⟩
  ·obtain ⟨f1,f2⟩:=e4
   refine ⟨f1,?_⟩
   rcases f2 with f2|⟨g,cap,cur,rfl,g1,g2,g3⟩
   ·exact Or.inl f2
   ·refine Or.inr ⟨g,cap,cur,rfl,g1,?_,g3⟩
    show w'.heap[g]?=_
    rw [hb.block g (Array.getElem?_eq_some_iff.1 g2).1];exact g2
  ·rcases hf with hf|hf
   ·exact e6 g hg hf
   ·have:=(World.ownsRow.lt e4 g hg).2;omega
 ·intro b hf
  show b < w'.heap.size
  rcases hf with hf|hf
  ·have:=hs.heap.frz b hf;have:=hb.size;omega
  ·omega
 ·intro b p hp
  obtain ⟨g,e1,e2,e3,e4,e5⟩:=hs.heap.obj b p hp
  refine ⟨g,e1,e2,p.stable _ _ _ _ _ _ e3 hext.F (fun k hk=>hb.block k (e4 k hk).2.1),fun k hk=>⟨(e4 k hk).1,Nat.lt_of_lt_of_le (e4 k hk).2.1 hb.size,fun hf=>?_⟩,e5⟩
  rcases hf with hf|hf
  ·exact (e4 k hk).2.2 hf
  ·have:=(e4 k hk).2.1;omega
 ·rcases hf with hf|hf
  ·exact hs.old b hf hlt
  ·have:=hs.base;omega
section
variable {P:Program} {ops:Array Oper} {Q:Exit→St→Prop} {rest:List Oper} {st:St} {d:Nat} {ty:TypeId} {pos:String} {af:Array Edge}
theorem eQ {f:FuncId} {args:List Operand} {tys:Array TypeId} {dst:Option Tmp} (hc:bB P f=true) (a:Act) (w:World) :
  (execOp a.eval ⟨dst,.call ⟨.value (.func f),args.toArray,tys⟩,ty,pos,af,none⟩).run P w=.ok (.enter f (args.map a.eval).toArray) w:=by
 unfold bB at hc
 split at hc
 ·rename_i fn hf
  simp only [Bool.and_eq_true,Bool.not_eq_true'] at hc
  obtain ⟨h1,h2⟩:=hc
  cases hb:fn.body with
  | none=>rw [hb] at h2;cases h2
  | some c =>
   simp only [execOp,resolve,Act.eval,Deferred.ofValue]
   have h1':¬ fn.name= "runtime.NumGoroutine":=by simpa using h1
   simp [invoke,callFunc,hf,h1',hb]
 ·cases hc
theorem eS {Q:Exit→Act→World→Prop} {o:Oper} {rest:List Oper} {a:Act} {w w':World} {f:FuncId} {args:Array Value} (hg:o.guard=none) (hr:(execOp a.eval o).run P w=.ok (.enter f args) w') {R:Value→World→Prop}
  (hc:Calls P f args w' fun e w''=>∃ v,e=.returned v∧R v w'') (h:∀ v w'',R v w''→wpList P ops Q rest (a.put o.dst v) w''):wpList P ops Q (o::rest) a w :=
 wpList_plain hg fun K hK=>by
  unfold Oper.wp
  rw [hr]
  exact hc.mono fun e w'' ⟨v,he,hR⟩=>by subst he;exact hK _ _ (h v w'' hR)
def clF:AV→Option CV
 | .c x=>some x
 | .agg xs=>(clFL xs).map .agg
 | .tup xs=>(clFL xs).map .tup
 | _=>none
 where clFL:List AV→Option (List CV)
 | []=>some []
 | x::l=>match clF x,clFL l with|some y,some ys=>some (y::ys)|_,_=>none
mutual
theorem clF_cl {H:Nat→Option AB}:∀ {x:AV} {z:CV},clF x=some z→cl H x z
 | .c x,z,h=>by simp only [clF,Option.some.injEq] at h;subst h;exact Or.inl rfl
 | .agg xs,z,h=>by
  simp only [clF,Option.map_eq_some_iff] at h
  obtain ⟨zs,h1,rfl⟩:=h
  exact iM h1
 | .tup xs,z,h=>by
  simp only [clF,Option.map_eq_some_iff] at h
  obtain ⟨zs,h1,rfl⟩:=h
  exact iM h1
 | .ptr _ _,z,h=>by cases h
 | .vec _ _,z,h=>by cases h
 | .vptr _ _ _,z,h=>by cases h
 | .eptr _ _,z,h=>by cases h
 | .fn _ _,z,h=>by cases h
 | .ghost _ _ _,z,h=>by cases h
 | .ref _ _,z,h=>by cases h
theorem iM {H:Nat→Option AB}:∀ {xs:List AV} {zs:List CV},clF.clFL xs=some zs→cl.clL H xs zs
 | [],zs,h=>by simp only [clF.clFL,Option.some.injEq] at h;subst h;trivial
 | x::xs,zs,h=>by
  simp only [clF.clFL] at h
  cases h1:clF x with
  | none=>rw [h1] at h;cases h
  | some y =>
   cases h2:clF.clFL xs with
   | none=>rw [h1,h2] at h;cases h
   | some ys =>
    rw [h1,h2] at h
    simp only [Option.some.injEq] at h;subst h
    exact ⟨clF_cl h1,iM h2⟩
end
theorem ao_call {X:List Oper→St→Prop} [W:Walk P X] {f:FuncId} {args:List Operand} {tys:Array TypeId} {ys:List AV} {zs:List CV} {r:CV} {y:AV} (hys:evs st args=some ys) (hz0:clF.clFL ys=some zs) (hcon:bm P st.gl f zs r) (hy:ofC r=y) (hd:Nat.blt d st.n=true)
  (h:X rest (st.put d y)):X (⟨some d,.call ⟨.value (.func f),args.toArray,tys⟩,ty,pos,af,none⟩::rest) st:=by
 subst hy
 have hz:cl.clL (fun _=>none) ys zs:=iM hz0
 refine W.step rfl rfl hd (fun base w0 M a hs K Q hK=>?_) h
 obtain ⟨e1,e2⟩:=dN hys
 obtain ⟨e3,e4⟩:=gG hz
 unfold Oper.wp
 rw [eQ hcon.1 a M.w]
 refine Calls.mono (hcon.2 M.w M.F _ hs.sim.heap.frz (fun g xs hg=>?_) (by simp;omega) (fun i x u hx hu=>?_)) (fun e w'' hR=>?_)
 ·have:=hs.sim.gl g xs hg
  generalize hq:Value.pointer (some ⟨g,0,none⟩)=q at this ⊢
  cases this with
  | eptr cs hF hcell hr=>exact .eptr cs hF hcell hr
 ·have hi:i < args.length:=by have:=(List.getElem?_eq_some_iff.1 hx).1;omega
  obtain ⟨y,hy⟩:∃ y,ys[i]?=some y:=⟨_,List.getElem?_eq_getElem (by omega)⟩
  have hev:=hs.ev (by simp [Op.operands,Call.operands];exact Or.inr (List.getElem_mem hi)) (e2 i args[i] y (by simp [hi]) hy)
  have hu':a.eval args[i]=u:=by simpa [hi] using hu
  rw [hu'] at hev
  exact il hs.sim.heap (F':=M.F) (fun _ h=>h) (fun b E s l h=>by cases h) hev (e4 i y x hy hx)
 ·obtain ⟨v,rfl,hb,hrc⟩:=hR
  exact hK v (M.after w'') (Ext.after hb hs.sim.heap.frz) (fun s hs'=>hs'.after hb) (RA.ofC (M:=M.after w'') hrc)
end
inductive Res1 (P:Program) (st:St):ResultVar→CV→Prop
 | tmp {t:Nat} {y:AV} {r:CV} (h:bf t st.env=some y) (hc:cl st.H y r):Res1 P st (.tmp t) r
 | cell_s {ad t b off n:Nat} {t':TypeId} {l:List AV} {y:AV} {r:CV} (I:TyC P t false n) (h:bf ad st.env=some (.ptr b off)) (hH:st.H b=some (.cells t' l)) (hy:l[off]?=some y) (hc:cl st.H y r):Res1 P st (.cell ad t) r
 | cell_a {ad t b off n:Nat} {t':TypeId} {l ys:List AV} {rs:List CV} (I:TyC P t true n) (h:bf ad st.env=some (.ptr b off)) (hH:st.H b=some (.cells t' l)) (hy:(l.drop off).take n=ys) (hn:ys.length=n) (hc:cl.clL st.H ys rs):Res1 P st (.cell ad t) (.agg rs)
inductive ResL (P:Program) (st:St):List ResultVar→List CV→Prop
 | nil:ResL P st [] []
 | cons {v:ResultVar} {vs:List ResultVar} {r:CV} {rs:List CV} (h:Res1 P st v r) (hs:ResL P st vs rs):ResL P st (v::vs) (r::rs)
def Ret (P:Program) (rs:List ResultVar) (r:CV):Exit→St→Prop
 | e,st=>(e=.normal∨e=.ret)∧((∃ v,rs=[v]∧Res1 P st v r)∨(rs.length≠1∧∃ zs,r=.tup zs∧ResL P st rs zs))
theorem cL {P:Program} {v:ResultVar} {r:CV} {st:St} (h:Res1 P st v r):Ret P [v] r .ret st:=⟨Or.inr rfl,Or.inl ⟨v,rfl,h⟩⟩
theorem bJ {P:Program} {v1 v2:ResultVar} {vs:List ResultVar} {zs:List CV} {st:St} (h:ResL P st (v1::v2::vs) zs):Ret P (v1::v2::vs) (.tup zs) .ret st:=⟨Or.inr rfl,Or.inr ⟨by simp,zs,rfl,h⟩⟩
def res1 (a:Act):ResultVar→Sem Value
 | .tmp t=>pure (a.tmps.getD t undef)
 | .cell ad t=>do loadVar t (← asAddr (a.tmps.getD ad undef))
theorem res1_run {P:Program} {base:Nat} {w0:W0} {st:St} {M:Wd} {a:Act} (hs:Sim base w0 st M a) {F':Nat→Prop} (hF:∀ b,M.F b→F' b) (hF':∀ b,base≤b→b < M.w.heap.size→F' b) {v:ResultVar} {r:CV} (h:Res1 P st v r) :
  ∃ u,(res1 a v).run P M.w=.ok u M.w∧RC F' M.w r u:=by
 have hvec:∀ b E s l,st.H b=some (.vec E s l)→M.H b=some (.vec E s l)∧∀ g,(M.m b).block=some g→F' g:=fun b E s l hb=>by
  rw [← hs.H] at hb
  refine ⟨hb,fun g hg=>?_⟩
  obtain ⟨v,n,cs,e1,_,_,e4,_⟩:=hs.heap.vec b E s l hb
  rw [e1] at hg
  obtain ⟨f1,f2⟩:=World.ownsRow.lt e4 g hg
  exact hF' g f1 f2
 cases h with
 | tmp h hc =>
  rename_i t y
  obtain ⟨u,h1,h2⟩:=hs.env t y h
  exact ⟨u,by simp [res1,Array.getD_eq_getD_getElem?,h1],il hs.heap hF hvec h2 hc⟩
 | cell_s I h hH hy hc =>
  rename_i ad t b off n t' l y
  obtain ⟨u,h1,h2⟩:=hs.env ad _ h
  cases h2 with
  | ptr hm =>
   rename_i g
   obtain ⟨g',arr,e1,_,_,e4,e5,e6⟩:=hs.heap.cells b t' l (by rw [hs.H];exact hH)
   rw [hm] at e1;cases e1
   have hlt:off < arr.size:=by rw [← e5];exact (List.getElem?_eq_some_iff.1 hy).1
   refine ⟨arr[off],?_,il hs.heap hF hvec (e6 off y _ hy (by simp [hlt])) hc⟩
   have:=iC I M.w ⟨g,off,none⟩ arr[off] (by simp [World.cell?,e4,hlt])
   simp only [Instr.loadAt,Instr.sureAddr,Sem.run_bind,Sem.run_pure,Result.andThen_ok] at this
   simp [res1,Array.getD_eq_getD_getElem?,h1,asAddr,this]
 | cell_a I h hH hy hn hc =>
  rename_i ad t b off n t' l ys rs
  obtain ⟨u,h1,h2⟩:=hs.env ad _ h
  cases h2 with
  | ptr hm =>
   rename_i g
   obtain ⟨g',arr,e1,_,_,e4,e5,e6⟩:=hs.heap.cells b t' l (by rw [hs.H];exact hH)
   rw [hm] at e1;cases e1
   have hln:((arr.toList.drop off).take n).length=n:=by
    have:((l.drop off).take n).length=n:=by rw [hy];exact hn
    simp only [List.length_take,List.length_drop,Array.length_toList] at this ⊢
    rw [← e5];exact this
   have hRA:RA M (.agg ys) (.agg ((arr.toList.drop off).take n).toArray):=by
    refine .agg (by rw [hn];simpa using hln.symm) (fun i y u hy' hu=>?_)
    subst hy
    have hi:i < n:=by have:=(List.getElem?_eq_some_iff.1 hy').1;omega
    rw [List.getElem?_take_of_lt hi,List.getElem?_drop] at hy'
    rw [List.getElem?_toArray,List.getElem?_take_of_lt hi,List.getElem?_drop,Array.getElem?_toList] at hu
    exact e6 _ y u hy' hu
   refine ⟨_,?_,il hs.heap hF hvec hRA (cl_agg hc)⟩
   have:=run_load_a I M.w g off ((arr.toList.drop off).take n) hln (fun j v hv=>by
    have hj:j < n:=by have:=(List.getElem?_eq_some_iff.1 hv).1;omega
    rw [List.getElem?_take_of_lt hj,List.getElem?_drop,Array.getElem?_toList] at hv
    simp [World.cell?,e4,hv])
   simp only [Instr.loadAt,Instr.sureAddr,Sem.run_bind,Sem.run_pure,Result.andThen_ok] at this
   simp [res1,Array.getD_eq_getD_getElem?,h1,asAddr,this]
theorem resL_run {P:Program} {base:Nat} {w0:W0} {st:St} {M:Wd} {a:Act} (hs:Sim base w0 st M a) {F':Nat→Prop} (hF:∀ b,M.F b→F' b) (hF':∀ b,base≤b→b < M.w.heap.size→F' b):∀ {vs:List ResultVar} {rs:List CV},ResL P st vs rs →
  ∃ us:List Value,(vs.mapM (res1 a)).run P M.w=.ok us M.w∧us.length=vs.length∧rs.length=us.length∧∀ (i:Nat) (r:CV) (u:Value),rs[i]?=some r→us[i]?=some u→RC F' M.w r u
 | _,_,.nil=>⟨[],by simp,rfl,rfl,fun i r u h=>by simp at h⟩
 | _,_,.cons h hs'=>by
  obtain ⟨u,h1,h2⟩:=res1_run hs hF hF' h
  obtain ⟨us,h3,h4,h5,h6⟩:=resL_run hs hF hF' hs'
  refine ⟨u::us,?_,by simp [h4],by simp [h5],fun i r u' h7 h8=>?_⟩
  ·rw [List.mapM_cons,Sem.run_bind,h1]
   simp only [Result.andThen_ok,Sem.run_bind,h3,Sem.run_pure]
  ·cases i with
   | zero=>simp at h7 h8;subst h7;subst h8;exact h2
   | succ i=>exact h6 i r u' (by simpa using h7) (by simpa using h8)
def am:Nat→List CV→List (Nat×AV)
 | _,[]=>[]
 | k,x::l=>(k,ofC x)::am (k+1) l
theorem iO:∀ (l:List CV) (k i:Nat) (y:AV),bf i (am k l)=some y→∃ x,k≤i∧l[i - k]?=some x∧y=ofC x
 | [],k,i,y,h=>by simp [am,bf] at h
 | x::l,k,i,y,h=>by
  rw [am,az] at h
  split at h
  ·rename_i hk;subst hk;simp only [Option.some.injEq] at h;exact ⟨x,Nat.le_refl _,by simp,h.symm⟩
  ·obtain ⟨x',h1,h2,h3⟩:=iO l (k+1) i y h
   refine ⟨x',by omega,?_,h3⟩
   rw [show i - k=(i - (k+1))+1 by omega]
   simpa using h2
theorem results_run {P:Program} {fn:Func} {base:Nat} {w0:W0} {st:St} {M:Wd} {a:Act} (hs:Sim base w0 st M a) {F':Nat→Prop} (hF:∀ b,M.F b→F' b) (hF':∀ b,base≤b→b < M.w.heap.size→F' b) {r:CV} {e:Exit} (h:Ret P fn.results.toList r e st) :
  ∃ v,(results fn a.tmps).run P M.w=.ok v M.w∧RC F' M.w r v:=by
 have hconv:∀ us:List Value,(fn.results.toList.mapM (res1 a)).run P M.w=.ok us M.w→(results fn a.tmps).run P M.w=.ok (if h:us.toArray.size=1 then us.toArray[0] else .tuple us.toArray) M.w:=by
  intro us hu
  unfold results
  have hmap:Sem.run P (fn.results.mapM (res1 a)) M.w=Result.ok us.toArray M.w:=by
   rw [Array.mapM_eq_mapM_toList,map_eq_pure_bind,Sem.run_bind,hu];rfl
  change Sem.run P (fn.results.mapM (res1 a) >>= fun vs=>pure (if h:vs.size=1 then vs[0] else .tuple vs)) M.w=_
  rw [Sem.run_bind,hmap];rfl
 obtain ⟨_,h⟩:=h
 rcases h with ⟨v,hv,h⟩|⟨hne,zs,rfl,h⟩
 ·obtain ⟨u,h1,h2⟩:=res1_run hs hF hF' h
  refine ⟨u,?_,h2⟩
  have:=hconv [u] (by rw [hv,List.mapM_cons,Sem.run_bind,h1];simp)
  simpa using this
 ·obtain ⟨us,h1,h2,h3,h4⟩:=resL_run hs hF hF' h
  refine ⟨.tuple us.toArray,?_,.tup (by simpa using h3) (fun i x u hx hu=>h4 i x u hx (by simpa using hu))⟩
  have:=hconv us h1
  rw [dif_neg (by simpa [h2] using hne)] at this
  exact this
theorem ao {P:Program} {gl:List (Nat×List CV)} {f:FuncId} {fn:Func} {c:Code} {args:List CV} {r:CV} (hf:P.funcs[f]?=some fn) (hb:fn.body=some c) (hcall:bB P f=true) (hn:Nat.ble args.length fn.ntmps=true)
  (h:gf P c (Ret P fn.results.toList r) { n:=fn.ntmps,env:=am 0 args,heap:=[],nx:=0,gl:=gl }):bm P gl f args r:=by
 refine ⟨hcall,fun w F vals hF hgl hl hv=>?_⟩
 have hle:=Nat.le_of_ble_eq_true hn
 refine calls_of_wp hf hb ?_
 have hsim:Sim w.heap.size ⟨w,F⟩ { n:=fn.ntmps,env:=am 0 args,heap:=[],nx:=0,gl:=gl } { m:=fun _=>.row undef,H:=fun _=>none,nx:=0,F:=F,w:=w,fp:=fun _ _=>False } { tmps:=vals++Array.replicate (fn.ntmps - vals.size) undef,defers:=[] }:=by
  refine ⟨rfl,rfl,by simp;omega,fun i y hy=>?_,hgl,⟨?_,?_,fun b b' g _ h=>absurd rfl h,fun b h=>absurd rfl h,?_,hF,?_⟩,Below.refl _ _,Nat.le_refl _,rfl,fun b h _=>h⟩
  rotate_left
  ·intro b t l h;cases h
  ·intro b E s l h;cases h
  ·intro b _ g h;cases h
  ·intro b p h;cases h
  obtain ⟨x,_,h1,rfl⟩:=iO args 0 i y hy
  rw [Nat.sub_zero] at h1
  have hi:i < vals.size:=by have:=(List.getElem?_eq_some_iff.1 h1).1;omega
  refine ⟨vals[i],by simp [Array.getElem?_append,hi],RA.ofC (M:={ m:=fun _=>.row undef,H:=fun _=>none,nx:=0,F:=F,w:=w,fp:=fun _ _=>False }) (hv i x _ h1 (by simp [hi]))⟩
 refine Code.wp_mono ?_ (h _ _ _ _ hsim)
 intro e a' w' ⟨M',st',h1,h2,h3,h4⟩
 subst h1
 have hres:=results_run (fn:=fn) h2 (F':=fun b=>F b∨(w.heap.size≤b∧b < M'.w.heap.size)) (fun b hb'=>by
  rcases Nat.lt_or_ge b w.heap.size with hc|hc
  ·exact Or.inl (h2.old b hb' hc)
  ·exact Or.inr ⟨hc,h2.heap.frz b hb'⟩) (fun b h1 h2=>Or.inr ⟨h1,h2⟩) h4
 obtain ⟨v,hrun,hrc⟩:=hres
 have hpost:bodyPost P fn (fun e w'=>∃ v,e=.returned v∧Below w.heap.size w w'∧RC (fun b=>F b∨(w.heap.size≤b∧b < w'.heap.size)) w' r v) e a' M'.w:=by
  rcases h4.1 with rfl|rfl
  ·exact ⟨h2.defs,v,hrun,v,rfl,h2.below,hrc⟩
  ·exact ⟨h2.defs,v,hrun,v,rfl,h2.below,hrc⟩
 exact hpost
end Go.Proofs.YtdndfncpglfdeaaGreatDoor.Ev

namespace Go.Proofs.YtdndfncpglfdeaaGreatDoor.Ev
set_option linter.unusedVariables false
set_option linter.unusedSimpArgs false
open Go.RowKit
theorem av {α:Type} {enc:α→List CV} {size:Nat} (henc:∀ x,(enc x).length=size):∀ l:List α,(l.flatMap enc).length=l.length * size
 | []=>by simp
 | x::l=>by rw [List.flatMap_cons,List.length_append,henc,av henc l,List.length_cons,Nat.add_mul];omega
theorem ij {α:Type} {enc:α→List CV} {size:Nat} (henc:∀ x,(enc x).length=size):∀ (l:List α) (k:Nat),(l.flatMap enc).drop (k * size)=(l.drop k).flatMap enc
 | [],k=>by simp
 | x::l,0=>by simp
 | x::l,k+1=>by
  rw [List.flatMap_cons,List.drop_succ_cons,← ij henc l k,Nat.add_mul,Nat.add_comm,Nat.one_mul,← List.drop_drop,List.drop_append_of_le_length (by rw [henc];exact Nat.le_refl _),← henc x,List.drop_length,List.nil_append,henc]
theorem flat_take {α:Type} {enc:α→List CV} {size:Nat} (henc:∀ x,(enc x).length=size):∀ (l:List α) (k:Nat),(l.flatMap enc).take (k * size)=(l.take k).flatMap enc
 | [],k=>by simp
 | x::l,0=>by simp
 | x::l,k+1=>by
  rw [List.flatMap_cons,List.take_succ_cons,List.flatMap_cons,← flat_take henc l k,Nat.add_mul,Nat.one_mul,List.take_append,henc,List.take_of_length_le (by rw [henc];omega)]
  congr 2;omega
theorem drop_at {α:Type} {enc:α→List CV} {size:Nat} (I:EncL enc size) (l:List α) (k:Nat) (h:k < l.length):(l.flatMap enc).drop (k * size)=enc l[k]++(l.drop (k+1)).flatMap enc:=by
 rw [ij I.len,List.drop_eq_getElem_cons h,List.flatMap_cons]
theorem drop_atj {α:Type} {enc:α→List CV} {size:Nat} (I:EncL enc size) (l:List α) (k j:Nat) (h:k < l.length) (hj:j≤size):(l.flatMap enc).drop (k * size+j)=(enc l[k]).drop j++(l.drop (k+1)).flatMap enc:=by
 rw [← List.drop_drop,drop_at I l k h,List.drop_append_of_le_length (by rw [I.len];exact hj)]
section
variable {P:Program} {ops:Array Oper} {Q:Exit→St→Prop} {X:List Oper→St→Prop} {rest:List Oper} {st:St} {d:Nat} {ty:TypeId} {pos:String} {af:Array Edge}
theorem run_indexAt {t E size bytes:Nat} (I:SlT P t E size bytes) (w:World) (g o n cap k:Nat) (kk:IntKind) (h:k < n):(Instr.indexAt t (.slice (some ⟨g,o,none⟩) n cap) (.int kk (k:Int))).run P w=.ok (.pointer (some ⟨g,o+k * size,none⟩)) w:=by
 obtain ⟨i,z,h1,h2,h3,h4,h5,h6⟩:=I.out
 have e:(Addr.add ⟨g,o,none⟩ (k * size))=⟨g,o+k * size,none⟩:=Kit.addr_add g o _
 simp [Instr.indexAt,run_underlying h1,sizeOf,typeInfo,h2,h4,e,asIntOf,h]
theorem ao_index_l [W:Walk P X] {x i:Operand} {t E size bytes:Nat} [I:SlT P t E size bytes] {xs:List CV} {kk:IntKind} {idx:Int} (k:Nat) (hx:st.ev x=some (.c (.lst size xs))) (hi:st.ev i=some (.c (.v (.int kk idx)))) (hk:idx=(k:Int)) (hlt:k * size < xs.length) (hd:Nat.blt d st.n=true)
  (h:X rest (st.put d (.eptr xs (k * size)))):X (⟨some d,.indexAddr t x i,ty,pos,af,none⟩::rest) st:=by
 refine aY rfl rfl hd (fun _ _ M a hs=>?_) h
 have hv:=hs.ev (by simp [Op.operands,Call.operands]) hx
 have hidx:=(hs.ev (by simp [Op.operands,Call.operands]) hi).bool
 subst hk
 generalize he:a.eval x=u at hv
 cases hv with
 | c hv =>
  cases hv with
  | nil=>simp at hlt
  | lst cs hn hc hF hcell hr =>
   rename_i blk off n cap
   have hkn:k < n:=by rw [hn] at hlt;exact Nat.lt_of_mul_lt_mul_right hlt
   refine ⟨.pointer (some ⟨blk,off+k * size,none⟩),?_,.eptr cs hF hcell hr⟩
   simp only [execOp,he,hidx]
   rw [Sem.run_bind,run_indexAt I M.w blk off n cap k kk hkn];rfl
theorem ao_index_f [W:Walk P X] {α:Type} {enc:α→List CV} {x i:Operand} {t E size bytes:Nat} [I:SlT P t E size bytes] {l:List α} {kk:IntKind} {idx:Int} (k:Nat) (hx:st.ev x=some (.c (.lst size (l.flatMap enc)))) (J:EncL enc size) (hi:st.ev i=some (.c (.v (.int kk idx)))) (hk:idx=(k:Int)) (hlt:k < l.length) (hd:Nat.blt d st.n=true)
  (h:X rest (st.put d (.eptr (l.flatMap enc) (k * size)))):X (⟨some d,.indexAddr t x i,ty,pos,af,none⟩::rest) st :=
 ao_index_l k hx hi hk (by rw [av J.len];exact Nat.mul_lt_mul_of_pos_right hlt J.pos) hd h
theorem ao_index_v [W:Walk P X] {x i:Operand} {t E E' size bytes b n:Nat} [I:SlT P t E size bytes] {xs:List CV} {kk:IntKind} {idx:Int} (k:Nat) (hx:st.ev x=some (.vec b n)) (hH:st.H b=some (.vec E' size xs)) (hn:xs.length=n * size) (hi:st.ev i=some (.c (.v (.int kk idx)))) (hk:idx=(k:Int)) (hlt:k < n) (hd:Nat.blt d st.n=true)
  (h:X rest (st.put d (.vptr b n (k * size)))):X (⟨some d,.indexAddr t x i,ty,pos,af,none⟩::rest) st:=by
 refine aY rfl rfl hd (fun _ _ M a hs=>?_) h
 have hv:=hs.ev (by simp [Op.operands,Call.operands]) hx
 have hidx:=(hs.ev (by simp [Op.operands,Call.operands]) hi).bool
 subst hk
 generalize he:a.eval x=u at hv
 cases hv with
 | vec hb ho hh =>
  have hM:M.H b=some (.vec E' size xs):=hs.H _ _ hH
  obtain ⟨h1,h2⟩:=hh E' size xs hM
  obtain ⟨v,n',cs,e1,e2,e3,e4,e5,e6⟩:=hs.sim.heap.vec b E' size xs hM
  rw [h2 hn] at e1;cases e1
  have hnn:n=n':=Nat.eq_of_mul_eq_mul_right e3 (by rw [← hn,e2])
  subst hnn
  rcases e4.2 with ⟨_,hn0⟩|⟨g,cap,cur,rfl,f1,f2,f3,f4,f5,f6⟩
  ·omega
  ·refine ⟨.pointer (some ⟨g,k * size,none⟩),?_,.vptr hb rfl (fun E2 size2 l2 hl2=>?_)⟩
   ·simp only [execOp,he,hidx]
    have:=run_indexAt I M.w g 0 n cap k kk hlt
    rw [Nat.zero_add] at this
    rw [Sem.run_bind,this];rfl
   ·rw [hM] at hl2
    simp only [Option.some.injEq,AB.vec.injEq] at hl2
    obtain ⟨rfl,rfl,rfl⟩:=hl2
    exact ⟨h1,fun _=>⟨g,cap,h2 hn,rfl⟩⟩
theorem ao_load_f0 [W:Walk P X] {α:Type} {enc:α→List CV} {x:Operand} {t n size k:Nat} {l:List α} {r:α} {y:CV} {ys:List CV} [I:TyC P t false n] (hx:st.ev x=some (.eptr (l.flatMap enc) (k * size))) (J:EncL enc size) (hr:l[k]?=some r) (hy:enc r=y::ys) (hd:Nat.blt d st.n=true) (h:X rest (st.put d (.c y))):X (⟨some d,.load t x,ty,pos,af,none⟩::rest) st:=by
 obtain ⟨hk,rfl⟩:=List.getElem?_eq_some_iff.1 hr
 exact ao_load_e hx (by rw [drop_at J l k hk,hy];rfl) hd h
theorem ao_load_f [W:Walk P X] {α:Type} {enc:α→List CV} {x:Operand} {t n size k j:Nat} {l:List α} {r:α} {y:CV} {ys:List CV} [I:TyC P t false n] (hx:st.ev x=some (.eptr (l.flatMap enc) (k * size+j))) (J:EncL enc size) (hr:l[k]?=some r) (hj:Nat.ble j size=true) (hy:(enc r).drop j=y::ys) (hd:Nat.blt d st.n=true) (h:X rest (st.put d (.c y))):X (⟨some d,.load t x,ty,pos,af,none⟩::rest) st:=by
 obtain ⟨hk,rfl⟩:=List.getElem?_eq_some_iff.1 hr
 exact ao_load_e hx (by rw [drop_atj J l k j hk (Nat.le_of_ble_eq_true hj),hy];rfl) hd h
theorem ao_load_fa0 [W:Walk P X] {α:Type} {enc:α→List CV} {x:Operand} {t n size k:Nat} {l:List α} {r:α} {zs:List AV} [I:TyC P t true n] (hx:st.ev x=some (.eptr (l.flatMap enc) (k * size))) (J:EncL enc size) (hr:l[k]?=some r) (hn:Nat.beq n size=true) (hz:(enc r).map .c=zs) (hd:Nat.blt d st.n=true) (h:X rest (st.put d (.agg zs))):X (⟨some d,.load t x,ty,pos,af,none⟩::rest) st:=by
 obtain ⟨hk,rfl⟩:=List.getElem?_eq_some_iff.1 hr
 subst hz
 exact ao_load_ea (enc l[k]) hx (drop_at J l k hk) (by rw [J.len,cu hn]) hd h
theorem ao_load_fa [W:Walk P X] {α:Type} {enc:α→List CV} {x:Operand} {t n size k j:Nat} {l:List α} {r:α} {zs:List AV} [I:TyC P t true n] (hx:st.ev x=some (.eptr (l.flatMap enc) (k * size+j))) (J:EncL enc size) (hr:l[k]?=some r) (hj:Nat.ble (j+n) size=true) (hz:(((enc r).drop j).take n).map .c=zs) (hd:Nat.blt d st.n=true) (h:X rest (st.put d (.agg zs))):X (⟨some d,.load t x,ty,pos,af,none⟩::rest) st:=by
 obtain ⟨hk,rfl⟩:=List.getElem?_eq_some_iff.1 hr
 subst hz
 have hle:=Nat.le_of_ble_eq_true hj
 refine ao_load_ea (((enc l[k]).drop j).take n) (ys:=((enc l[k]).drop j).drop n++(l.drop (k+1)).flatMap enc) hx ?_ ?_ hd h
 ·rw [drop_atj J l k j hk (by omega),← List.append_assoc,List.take_append_drop]
 ·rw [List.length_take,List.length_drop,J.len];omega
theorem run_len {t E size bytes:Nat} (I:SlT P t E size bytes) (w:World) (ad:Option Addr) (n cap:Nat) (ty:TypeId):(Builtin.len_ #[t] ty #[.slice ad n cap]).run P w=.ok (.int .i64 (n:Int)) w:=by
 obtain ⟨i,z,h1,h2,h3,h4,h5,h6⟩:=I.out
 simp [Builtin.len_,run_underlying h1,goInt]
theorem ex_len {t E size bytes:Nat} (I:SlT P t E size bytes) {a:Act} {w:World} {ad:Option Addr} {n cap:Nat} {x:Operand} {dst:Option Tmp} (hx:a.eval x=.slice ad n cap):(execOp a.eval ⟨dst,.call ⟨.builtin .len,#[x],#[t]⟩,ty,pos,af,none⟩).run P w=.ok (.value (.int .i64 (n:Int))) w:=by
 simp only [execOp,resolve,List.map_toArray,List.map_cons,List.map_nil,hx]
 simp [invoke,builtin,run_len I w ad n cap]
theorem ao_len_f [W:Walk P X] {α:Type} {enc:α→List CV} {x:Operand} {t E size bytes:Nat} [I:SlT P t E size bytes] {l:List α} (hx:st.ev x=some (.c (.lst size (l.flatMap enc)))) (J:EncL enc size) (hd:Nat.blt d st.n=true) (h:X rest (st.put d (.c (.v (.int .i64 (l.length:Int)))))):X (⟨some d,.call ⟨.builtin .len,#[x],#[t]⟩,ty,pos,af,none⟩::rest) st:=by
 refine aY rfl rfl hd (fun _ _ M a hs=>?_) h
 have hv:=hs.ev (by simp [Op.operands,Call.operands]) hx
 generalize hxs:l.flatMap enc=xs at hv
 have hlen:=av J.len l
 rw [hxs] at hlen
 generalize he:a.eval x=u at hv
 cases hv with
 | c hv =>
  cases hv with
  | nil =>
   have h0:l.length=0:=by
    simp only [List.length_nil] at hlen
    rcases Nat.mul_eq_zero.1 hlen.symm with h|h
    ·exact h
    ·exact absurd h (by have:=J.pos;omega)
   exact ⟨_,ex_len I he,by rw [h0];exact .c (.v _)⟩
  | lst cs hn hc hF hcell hr =>
   rename_i n cap
   have:n=l.length:=Nat.eq_of_mul_eq_mul_right J.pos (by rw [← hn,hlen])
   subst this
   exact ⟨_,ex_len I he,.c (.v _)⟩
theorem ao_len_nil [W:Walk P X] {x:Operand} {t E size bytes:Nat} [I:SlT P t E size bytes] (hx:st.ev x=some (.c (.v (.slice none 0 0)))) (hd:Nat.blt d st.n=true) (h:X rest (st.put d (.c (.v (.int .i64 0))))):X (⟨some d,.call ⟨.builtin .len,#[x],#[t]⟩,ty,pos,af,none⟩::rest) st :=
 aY rfl rfl hd (fun _ _ M a hs=>⟨_,ex_len I (hs.ev (by simp [Op.operands,Call.operands]) hx).bool,.c (.v _)⟩) h
theorem ao_len_v [W:Walk P X] {x:Operand} {t E E' size size' bytes b n:Nat} [I:SlT P t E size bytes] {xs:List CV} (hx:st.ev x=some (.vec b n)) (hH:st.H b=some (.vec E' size' xs)) (hn:xs.length=n * size') (hd:Nat.blt d st.n=true) (h:X rest (st.put d (.c (.v (.int .i64 (n:Int)))))):X (⟨some d,.call ⟨.builtin .len,#[x],#[t]⟩,ty,pos,af,none⟩::rest) st:=by
 refine aY rfl rfl hd (fun _ _ M a hs=>?_) h
 have hv:=hs.ev (by simp [Op.operands,Call.operands]) hx
 generalize he:a.eval x=u at hv
 cases hv with
 | vec hb ho hh =>
  have hM:M.H b=some (.vec E' size' xs):=hs.H _ _ hH
  obtain ⟨h1,h2⟩:=hh E' size' xs hM
  obtain ⟨v,n',cs,e1,e2,e3,e4,e5,e6⟩:=hs.sim.heap.vec b E' size' xs hM
  rw [h2 hn] at e1;cases e1
  have hnn:n=n':=Nat.eq_of_mul_eq_mul_right e3 (by rw [← hn,e2])
  subst hnn
  rcases e4.2 with ⟨rfl,rfl⟩|⟨g,cap,cur,rfl,_⟩
  ·exact ⟨_,ex_len I he,.c (.v _)⟩
  ·exact ⟨_,ex_len I he,.c (.v _)⟩
theorem ao_slice_f [W:Walk P X] {α:Type} {enc:α→List CV} {x p q:Operand} {t E size bytes:Nat} [I:SlT P t E size bytes] {l:List α} {k1 k2:IntKind} {i1 i2:Int} (lo hi:Nat) (hx:st.ev x=some (.c (.lst size (l.flatMap enc)))) (J:EncL enc size) (hp:st.ev p=some (.c (.v (.int k1 i1)))) (hq:st.ev q=some (.c (.v (.int k2 i2)))) (h1:i1=(lo:Int)) (h2:i2=(hi:Int)) (hlo:lo≤hi) (hhi:hi≤l.length) (hd:Nat.blt d st.n=true)
  (h:X rest (st.put d (.c (.lst size (((l.take hi).drop lo).flatMap enc))))):X (⟨some d,.slice t x (some p) (some q) none,ty,pos,af,none⟩::rest) st:=by
 refine aY rfl rfl hd (fun _ _ M a hs=>?_) h
 have hv:=hs.ev (by simp [Op.operands,Call.operands]) hx
 have e1:=(hs.ev (by simp [Op.operands,Call.operands]) hp).bool
 have e2:=(hs.ev (by simp [Op.operands,Call.operands]) hq).bool
 subst h1;subst h2
 obtain ⟨i,z,f1,f2,f3,f4,f5,f6⟩:=I.out
 generalize hxs:l.flatMap enc=xs at hv
 have hlen:=av J.len l
 rw [hxs] at hlen
 generalize he:a.eval x=u at hv
 have hrun:∀ (ad:Option Addr) (n cap:Nat),n≤cap→n=l.length→u=.slice ad n cap→(execOp a.eval ⟨some d,.slice t x (some p) (some q) none,ty,pos,af,none⟩).run P M.w=.ok (.value (.slice (if cap=lo then ad else ad.map (·.add (lo * size))) (hi - lo) (cap - lo))) M.w:=by
  intro ad n cap hc hn hu
  subst hu
  simp only [execOp,he,Option.map_some,e1,e2]
  simp [Instr.sliceAt,run_underlying f1,Instr.slice,Instr.sliceBounds,Instr.sliceBound,asIntOf,sizeOf,typeInfo,f2,f4,hlo,show hi≤cap by omega]
 have hsub:∀ (j:Nat) (y:CV),(((l.take hi).drop lo).flatMap enc)[j]?=some y→xs[lo * size+j]?=some y:=by
  intro j y hy
  rw [← ij J.len,← flat_take J.len,hxs,List.getElem?_drop] at hy
  have:lo * size+j < hi * size:=by
   have:=(List.getElem?_eq_some_iff.1 hy).1
   simp only [List.length_take] at this;omega
  rwa [List.getElem?_take_of_lt this] at hy
 have hslen:(((l.take hi).drop lo).flatMap enc).length=(hi - lo) * size:=by
  rw [av J.len];simp only [List.length_drop,List.length_take];rw [Nat.min_eq_left hhi]
 cases hv with
 | c hv =>
  cases hv with
  | nil =>
   rename_i cap ad
   have h0:l.length=0:=by
    simp only [List.length_nil] at hlen
    rcases Nat.mul_eq_zero.1 hlen.symm with h|h
    ·exact h
    ·exact absurd h (by have:=J.pos;omega)
   refine ⟨_,hrun ad 0 cap (Nat.zero_le _) h0.symm rfl,?_⟩
   have hl0:l=[]:=List.eq_nil_of_length_eq_zero h0
   subst hl0
   have:hi - lo=0:=by simp at hhi;omega
   rw [this]
   simp only [List.take_nil,List.drop_nil,List.flatMap_nil]
   exact .c .nil
  | lst cs hn hc hF hcell hr =>
   rename_i blk off n cap
   have hnl:n=l.length:=Nat.eq_of_mul_eq_mul_right J.pos (by rw [← hn,hlen])
   refine ⟨_,hrun _ n cap hc hnl rfl,?_⟩
   have hadd:(Addr.add ⟨blk,off,none⟩ (lo * size))=⟨blk,off+lo * size,none⟩:=Kit.addr_add _ _ _
   by_cases hcl:cap=lo
   ·have:hi - lo=0:=by omega
    have hnil:((l.take hi).drop lo).flatMap enc=[]:=List.eq_nil_of_length_eq_zero (by rw [hslen,this];simp)
    rw [hnil,this]
    exact .c .nil
   ·rw [if_neg hcl]
    simp only [Option.map_some,hadd]
    refine .c (.lst (fun j=>cs (lo * size+j)) hslen (by omega) hF (fun j y hy=>?_) (fun j y hy=>hr _ y (hsub j y hy)))
    have:=hcell _ y (hsub j y hy)
    rw [Nat.add_assoc];exact this
end
end Go.Proofs.YtdndfncpglfdeaaGreatDoor.Ev

namespace Go.Proofs.YtdndfncpglfdeaaGreatDoor.Ev
set_option linter.unusedVariables false
set_option linter.unusedSimpArgs false
open Go.RowKit
def fieldVB (P:Program) (s i:Nat):Option (Nat×Bool×Nat) :=
 match P.underlying s with
 | some (.struct fs)=>match fs[i]? with
  | some f=>match tyB P f.type with
   | some (ag,n)=>some (f.offset,ag,n)
   | none=>none
  | none=>none
 | _=>none
class FieldV (P:Program) (s i:Nat) (off:outParam Nat) (ag:outParam Bool) (n:outParam Nat):Prop where
 h:fieldVB P s i=some (off,ag,n)
def strB (P:Program) (t:Nat):Option (List (Nat×Nat)×List Value) :=
 match P.info? t,P.underlying t with
 | some it,some (.struct fields)=>match it.zero,fields.toList.mapM (fun f=>(P.info? f.type).map fun i=>(f.offset,i.size)) with
  | some z,some places=>some (places,z.cells.toList)
  | _,_=>none
 | _,_=>none
class StrT (P:Program) (t:Nat) (pl:outParam (List (Nat×Nat))) (zs:outParam (List Value)):Prop where
 h:strB P t=some (pl,zs)
def AV.cellsA:AV→List AV
 | .agg xs=>xs
 | y=>[y]
def AV.okP:AV→Bool
 | .agg _=>true
 | y=>y.cellB
def fillA (pl:List (Nat×Nat)) (cells:List AV):List (Nat×AV)→Option (List AV)
 | []=>some cells
 | (i,y)::rest=>match pl[i]? with
  | none=>none
  | some (off,size)=>bif Nat.beq y.cellsA.length size && Nat.ble (off+size) cells.length && y.okP then fillA pl (bA cells y.cellsA off) rest else none
theorem cellsA_ra {M:Wd} {y:AV} {u:Value} (h:RA M y u) (hc:y.okP=true):y.cellsA.length=u.cells.size∧∀ (i:Nat) (z:AV) (v:Value),y.cellsA[i]?=some z→u.cells[i]?=some v→RA M z v:=by
 by_cases hy:∃ xs,y=.agg xs
 ·obtain ⟨xs,rfl⟩:=hy
  cases h with
  | agg hl hh=>exact ⟨hl,hh⟩
 ·have h1:y.cellB=true:=by
   cases y<;>first|exact hc|exact absurd ⟨_,rfl⟩ hy
  have h2:y.cellsA=[y]:=by
   cases y<;>first|rfl|exact absurd ⟨_,rfl⟩ hy
  rw [h2,dQ (h.one h1)]
  refine ⟨rfl,fun i z v hz hv=>?_⟩
  cases i with
  | zero=>simp at hz hv;subst hz;subst hv;exact h
  | succ i=>simp at hz
theorem fold_set:∀ (vs:List Value) (k off:Nat) (cells:Array Value),off+k+vs.length≤cells.size →
  ((vs.zipIdx k).foldl (fun (cs:Array Value) (x:Value×Nat)=>cs.setIfInBounds (off+x.2) x.1) cells).toList=cells.toList.take (off+k)++vs++cells.toList.drop (off+k+vs.length)
 | [],k,off,cells,_=>by simp
 | v::vs,k,off,cells,h=>by
  simp only [List.zipIdx_cons,List.foldl_cons]
  rw [fold_set vs (k+1) off _ (by simp at h ⊢;omega)]
  simp only [List.length_cons] at h ⊢
  simp only [Array.toList_setIfInBounds]
  have hlt:off+k < cells.toList.length:=by simp;omega
  rw [show off+(k+1)=(off+k)+1 by omega,List.take_set,List.drop_set_of_lt (by omega),List.take_succ_eq_append_getElem hlt,List.set_append_right _ _ (by simp;omega)]
  simp only [List.length_take,Nat.min_eq_left (Nat.le_of_lt hlt),Nat.sub_self,List.set_cons_zero,List.append_assoc,List.singleton_append]
  congr 3
  omega
theorem fill_sound {M:Wd} (pl:List (Nat×Nat)):∀ (parts:List (Nat×AV)) (cells:List AV) (arr:Array Value) (vals:List (Nat×Value)) (out:List AV),fillA pl cells parts=some out→cells.length=arr.size→(∀ (i:Nat) (x:AV) (u:Value),cells[i]?=some x→arr[i]?=some u→RA M x u) →
  parts.length=vals.length→(∀ (i:Nat) (p:Nat×AV) (q:Nat×Value),parts[i]?=some p→vals[i]?=some q→p.1=q.1∧RA M p.2 q.2) →
  ∃ res,Instr.fill (pl.toArray[·]?) arr vals=some res∧out.length=res.size∧∀ (i:Nat) (x:AV) (u:Value),out[i]?=some x→res[i]?=some u→RA M x u
 | [],cells,arr,vals,out,h,hl,hr,hp,_=>by
  simp only [fillA,Option.some.injEq] at h;subst h
  have:vals=[]:=List.eq_nil_of_length_eq_zero (by simpa using hp.symm)
  subst this
  exact ⟨arr,rfl,hl,hr⟩
 | (i,y)::parts,cells,arr,vals,out,h,hl,hr,hp,hpr=>by
  match vals,hp with
  | (j,v)::vals,hp =>
   obtain ⟨h1,h2⟩:=hpr 0 (i,y) (j,v) rfl rfl
   dsimp only at h1 h2;subst h1
   simp only [fillA] at h
   cases hpl:pl[i]? with
   | none=>rw [hpl] at h;cases h
   | some os =>
    obtain ⟨off,size⟩:=os
    rw [hpl] at h
    dsimp only at h
    cases hb:(Nat.beq y.cellsA.length size && Nat.ble (off+size) cells.length && y.okP) with
    | false=>rw [hb] at h;cases h
    | true =>
     rw [hb] at h
     simp only [cond_true] at h
     simp only [Bool.and_eq_true] at hb
     obtain ⟨⟨b1,b2⟩,b3⟩:=hb
     have b1:=cu b1
     have b2:=Nat.le_of_ble_eq_true b2
     obtain ⟨c1,c2⟩:=cellsA_ra h2 b3
     have hvs:v.cells.toList.length=size:=by simp;omega
     have hfs:=fold_set v.cells.toList 0 off arr (by simp;omega)
     have hfold:(v.cells.zipIdx.foldl (fun (cs:Array Value) (x:Value×Nat)=>cs.setIfInBounds (off+x.2) x.1) arr).toList=arr.toList.take off++v.cells.toList++arr.toList.drop (off+size):=by
      rw [← Array.foldl_toList,Array.toList_zipIdx,hfs,hvs,Nat.add_zero]
     generalize hA:v.cells.zipIdx.foldl (fun (cs:Array Value) (x:Value×Nat)=>cs.setIfInBounds (off+x.2) x.1) arr=A at hfold
     have hsz:A.size=arr.size:=by
      have:=congrArg List.length hfold
      simp only [Array.length_toList,List.length_append,List.length_take,List.length_drop] at this
      simp only [Array.length_toList] at hvs
      omega
     obtain ⟨res,e1,e2,e3⟩:=fill_sound pl parts (bA cells y.cellsA off) A vals out h (by rw [hsz,bA];simp;omega) (fun k x u hx hu=>by
      rw [bA,dc cells y.cellsA off y.cellsA.length k rfl (by omega)] at hx
      rw [← Array.getElem?_toList,hfold,dc arr.toList v.cells.toList off size k hvs (by simp;omega)] at hu
      rw [b1] at hx
      split at hx
      ·rename_i g1;rw [if_pos g1] at hu;exact hr k x u hx (by simpa using hu)
      ·rename_i g1;rw [if_neg g1] at hu
       split at hx
       ·rename_i g2;rw [if_pos g2] at hu;exact c2 _ x u hx (by simpa using hu)
       ·rename_i g2;rw [if_neg g2] at hu;exact hr k x u hx (by simpa using hu)) (by simpa using hp) (fun k p q hp' hq'=>hpr (k+1) p q (by simpa using hp') (by simpa using hq'))
     refine ⟨res,?_,e2,e3⟩
     simp only [Instr.fill]
     rw [List.getElem?_toArray,hpl]
     dsimp only
     rw [if_neg (by simp;omega),hA]
     exact e1
def evp (st:St):List (Nat×Operand)→Option (List (Nat×AV))
 | []=>some []
 | (i,x)::l=>match st.ev x,evp st l with|some y,some ys=>some ((i,y)::ys)|_,_=>none
theorem evp_get {st:St}:∀ {l:List (Nat×Operand)} {ys:List (Nat×AV)},evp st l=some ys→ys.length=l.length∧∀ (k:Nat) (p:Nat×AV) (q:Nat×Operand),ys[k]?=some p→l[k]?=some q→p.1=q.1∧st.ev q.2=some p.2
 | [],ys,h=>by simp only [evp,Option.some.injEq] at h;subst h;exact ⟨rfl,fun k p q h=>by simp at h⟩
 | (i,x)::l,ys,h=>by
  simp only [evp] at h
  split at h
  ·rename_i y ys' h1 h2
   simp only [Option.some.injEq] at h;subst h
   obtain ⟨e1,e2⟩:=evp_get h2
   refine ⟨by simp [e1],fun k p q h3 h4=>?_⟩
   cases k with
   | zero=>simp at h3 h4;subst h3;subst h4;exact ⟨rfl,h1⟩
   | succ k=>exact e2 k p q (by simpa using h3) (by simpa using h4)
  ·cases h
section
variable {P:Program} {ops:Array Oper} {Q:Exit→St→Prop} {X:List Oper→St→Prop} {rest:List Oper} {st:St} {d:Nat} {ty:TypeId} {pos:String} {af:Array Edge}
theorem ao_build [W:Walk P X] {t:TypeId} {parts:List (Nat×Operand)} {pl:List (Nat×Nat)} {zs:List Value} {ps:List (Nat×AV)} {out:List AV} [I:StrT P t pl zs] (hp:evp st parts=some ps) (hf:fillA pl (zs.map fun z=>.c (.v z)) ps=some out) (hd:Nat.blt d st.n=true) (h:X rest (st.put d (.agg out))):X (⟨some d,.build t parts.toArray,ty,pos,af,none⟩::rest) st:=by
 refine aY rfl rfl hd (fun _ _ M a hs=>?_) h
 have hI:=I.h
 unfold strB at hI
 split at hI
 ·rename_i it fields hi hu
  split at hI
  ·rename_i z places hz hpl
   simp only [Option.some.injEq,Prod.mk.injEq] at hI
   obtain ⟨rfl,rfl⟩:=hI
   obtain ⟨e1,e2⟩:=evp_get hp
   obtain ⟨res,f1,f2,f3⟩:=fill_sound (M:=M) places ps _ z.cells (parts.map fun q=>(q.1,a.eval q.2)) out hf (by simp) (fun i x u hx hu'=>by
    simp only [List.getElem?_map,Array.getElem?_toList,hu',Option.map_some,Option.some.injEq] at hx
    subst hx;exact .c (.v _)) (by simp [e1]) (fun i p q hp' hq'=>by
     obtain ⟨q0,h1,rfl⟩:∃ q0,parts[i]?=some q0∧(q0.1,a.eval q0.2)=q:=by simpa using hq'
     obtain ⟨h2,h3⟩:=e2 i p q0 hp' h1
     exact ⟨h2,hs.ev (by simp only [Op.operands];simp;exact ⟨q0.1,List.mem_of_getElem? h1⟩) h3⟩)
   refine ⟨.agg res,?_,.agg f2 f3⟩
   simp only [execOp]
   rw [Sem.run_bind,run_build M.w t _ res (by simp only [Program.built,hi,hu,hz,hpl,List.map_toArray];exact f1)];rfl
  ·cases hI
 ·cases hI
theorem ao_fieldv_s [W:Walk P X] {x:Operand} {s i off n:Nat} {xs:List AV} {y:AV} [I:FieldV P s i off false n] (hx:st.ev x=some (.agg xs)) (hy:xs[off]?=some y) (hd:Nat.blt d st.n=true) (h:X rest (st.put d y)):X (⟨some d,.field s x i,ty,pos,af,none⟩::rest) st:=by
 refine aY rfl rfl hd (fun _ _ M a hs=>?_) h
 have hv:=hs.ev (by simp [Op.operands,Call.operands]) hx
 have hI:=I.h
 unfold fieldVB at hI
 split at hI
 ·rename_i fs hu
  split at hI
  ·rename_i f hf
   split at hI
   ·rename_i ag n' ht
    simp only [Option.some.injEq,Prod.mk.injEq] at hI
    obtain ⟨rfl,rfl,rfl⟩:=hI
    obtain ⟨dd,ii,g1,g2,g3,g4⟩:=TyC.out (P:=P) ⟨ht⟩
    generalize he:a.eval x=u at hv
    cases hv with
    | agg hl hh =>
     rename_i vs
     have hlt:f.offset < vs.size:=by rw [← hl];exact (List.getElem?_eq_some_iff.1 hy).1
     refine ⟨vs[f.offset],?_,hh _ y _ hy (by simp [hlt])⟩
     have hagg:(isAgg f.type).run P M.w=.ok false M.w:=by
      unfold isAgg
      rw [Sem.run_bind,run_underlying g1 M.w]
      cases dd<;>simp_all
     simp only [execOp,he]
     simp [Instr.field,run_underlying hu,hf,asAgg,part,hagg,hlt]
   ·cases hI
  ·cases hI
 ·cases hI
theorem ao_fieldv_a [W:Walk P X] {x:Operand} {s i off n:Nat} {xs:List AV} [I:FieldV P s i off true n] (hx:st.ev x=some (.agg xs)) (hle:Nat.ble (off+n) xs.length=true) (hd:Nat.blt d st.n=true) (h:X rest (st.put d (.agg ((xs.drop off).take n)))):X (⟨some d,.field s x i,ty,pos,af,none⟩::rest) st:=by
 refine aY rfl rfl hd (fun _ _ M a hs=>?_) h
 have hv:=hs.ev (by simp [Op.operands,Call.operands]) hx
 have hle:=Nat.le_of_ble_eq_true hle
 have hI:=I.h
 unfold fieldVB at hI
 split at hI
 ·rename_i fs hu
  split at hI
  ·rename_i f hf
   split at hI
   ·rename_i ag n' ht
    simp only [Option.some.injEq,Prod.mk.injEq] at hI
    obtain ⟨rfl,rfl,rfl⟩:=hI
    obtain ⟨dd,ii,g1,g2,g3,g4⟩:=TyC.out (P:=P) ⟨ht⟩
    generalize he:a.eval x=u at hv
    cases hv with
    | agg hl hh =>
     rename_i vs
     refine ⟨.agg (vs.extract f.offset (f.offset+n')),?_,.agg ?_ (fun k y u hy hu'=>?_)⟩
     ·have hagg:(isAgg f.type).run P M.w=.ok true M.w:=by
       unfold isAgg
       rw [Sem.run_bind,run_underlying g1 M.w]
       cases dd<;>simp_all
      simp only [execOp,he]
      simp [Instr.field,run_underlying hu,hf,asAgg,part,hagg,sizeOf,typeInfo,g3,g4]
     ·simp;omega
     ·have hk:k < n':=by have:=(List.getElem?_eq_some_iff.1 hy).1;simp at this;omega
      rw [List.getElem?_take_of_lt hk,List.getElem?_drop] at hy
      refine hh _ y u hy ?_
      rw [Array.getElem?_extract] at hu'
      split at hu'
      ·exact hu'
      ·cases hu'
   ·cases hI
  ·cases hI
 ·cases hI
end
end Go.Proofs.YtdndfncpglfdeaaGreatDoor.Ev

namespace Go.Proofs.YtdndfncpglfdeaaGreatDoor.Ev
set_option linter.unusedVariables false
set_option linter.unusedSimpArgs false
open Go.RowKit
structure StEq (s t:St):Prop where
 n:s.n=t.n
 heap:s.heap=t.heap
 nx:s.nx=t.nx
 gl:s.gl=t.gl
 env:∀ i,bf i s.env=bf i t.env
theorem StEq.symm {s t:St} (h:StEq s t):StEq t s:=⟨h.n.symm,h.heap.symm,h.nx.symm,h.gl.symm,fun i=>(h.env i).symm⟩
theorem StEq.put {s t:St} (h:StEq s t) (d:Nat) (y:AV):StEq (s.put d y) (t.put d y) :=
 ⟨h.n,h.heap,h.nx,h.gl,fun i=>by simp only [St.put,az];rw [h.env i]⟩
theorem StEq.comm (s:St) {d d':Nat} (hne:d≠d') (y y':AV):StEq ((s.put d y).put d' y') ((s.put d' y').put d y) :=
 ⟨rfl,rfl,rfl,rfl,fun i=>by
  simp only [St.put,az]
  by_cases h1:d'=i
  ·subst h1;rw [if_pos rfl,if_neg hne,if_pos rfl]
  ·rw [if_neg h1];by_cases h2:d=i
   ·rw [if_pos h2,if_pos h2]
   ·rw [if_neg h2,if_neg h2,if_neg h1]⟩
theorem StEq.H {s t:St} (h:StEq s t):s.H=t.H:=by unfold St.H;rw [h.heap]
theorem StEq.ev {s t:St} (h:StEq s t) (x:Operand):s.ev x=t.ev x:=by
 cases x with
 | tmp i=>exact h.env i
 | const v=>rfl
 | global g=>simp only [St.ev,h.gl]
 | func f=>rfl
theorem StEq.sim {s t:St} (h:StEq s t) {base:Nat} {w0:W0} {M:Wd} {a:Act} (hs:Sim base w0 s M a):Sim base w0 t M a :=
 ⟨hs.H.trans h.H,hs.nx.trans h.nx,hs.n.trans h.n,fun i x hx=>hs.env i x (by rw [h.env i];exact hx),fun g xs hg=>hs.gl g xs (by rw [h.gl];exact hg),hs.heap,hs.below,hs.base,hs.defs,hs.old⟩
section
variable {P:Program} {ops:Array Oper}
theorem gx.up {o:Oper} {s t:St} {y:AV} (h:gx P o s y) (hH:∀ b x,s.H b=some x→t.H b=some x) (hg:s.gl=t.gl) (hev:∀ x∈o.op.operands,s.ev x=t.ev x):gx P o t y :=
 fun base w0 M a hs=>h base w0 M a ⟨⟨fun b x hx=>hs.sim.H b x (hH b x hx),fun g xs hx=>hs.sim.gl g xs (by rw [← hg];exact hx),hs.sim.heap⟩,fun x hm z hz=>hs.ops x hm z (by rw [← hev x hm];exact hz)⟩
theorem gx.of {o:Oper} {s t:St} {y:AV} (h:gx P o s y) (hh:s.heap=t.heap) (hg:s.gl=t.gl) (hev:∀ x∈o.op.operands,s.ev x=t.ev x):gx P o t y :=
 h.up (fun b x hx=>by unfold St.H at *;rw [← hh];exact hx) hg hev
theorem upon_guard {dst:Option Tmp} {op:Op} {ty:TypeId} {pos:String} {af:Array Edge} {g g':Option (Nat×Bool)} {a:Act} {K:Act→World→Prop} {Q:Exit→Act→World→Prop} {r:Result Next} (h:Oper.upon P ⟨dst,op,ty,pos,af,g⟩ a K Q r):Oper.upon P ⟨dst,op,ty,pos,af,g'⟩ a K Q r:=by
 cases r with
 | ok n w'=>cases n<;>exact h
 | halt x w'=>cases x<;>exact h
theorem gx.guard {dst:Option Tmp} {op:Op} {ty:TypeId} {pos:String} {af:Array Edge} {g g':Option (Nat×Bool)} {st:St} {y:AV} (q:gx P ⟨dst,op,ty,pos,af,g⟩ st y):gx P ⟨dst,op,ty,pos,af,g'⟩ st y :=
 fun base w0 M a hs K Q hK=>upon_guard (q base w0 M a ⟨hs.sim,hs.ops⟩ K Q hK)
def DY (P:Program) (ops:Array Oper) (o:Oper) (st:St) (d:Nat) (y:AV):Prop :=
 o.dst=some d∧Nat.blt d st.n=true ∧
 ((o.guard=none∧gx P o st y) ∨
  (∃ j want t b,o.guard=some (j,want)∧(ops[j]?).bind (·.dst)=some t∧bf t st.env=some (.c (.v (.bool b)))∧((b=want∧gx P o st y)∨(b≠want∧y=.c (.v undef)))) ∨
  (∃ j want t,o.guard=some (j,want)∧(ops[j]?).bind (·.dst)=some t∧bf t st.env=some (.c (.v undef))∧y=.c (.v undef)))
theorem DY.of {o:Oper} {s t:St} {d:Nat} {y:AV} (h:DY P ops o s d y) (hn:s.n=t.n) (hh:∀ b x,s.H b=some x→t.H b=some x) (hg:s.gl=t.gl) (hev:∀ x∈o.op.operands,s.ev x=t.ev x)
  (hgd:∀ j want q,o.guard=some (j,want)→(ops[j]?).bind (·.dst)=some q→bf q s.env=bf q t.env):DY P ops o t d y:=by
 obtain ⟨h1,h2,h3⟩:=h
 refine ⟨h1,by rw [← hn];exact h2,?_⟩
 rcases h3 with ⟨g,q⟩|⟨j,want,q,b,g1,g2,g3,g4⟩|⟨j,want,q,g1,g2,g3,g4⟩
 ·exact .inl ⟨g,q.up hh hg hev⟩
 ·refine .inr (.inl ⟨j,want,q,b,g1,g2,by rw [← hgd j want q g1 g2];exact g3,?_⟩)
  exact g4.imp (fun ⟨e,q⟩=>⟨e,q.up hh hg hev⟩) id
 ·exact .inr (.inr ⟨j,want,q,g1,g2,by rw [← hgd j want q g1 g2];exact g3,g4⟩)
theorem DY.eq {o:Oper} {s t:St} {d:Nat} {y:AV} (h:DY P ops o s d y) (e:StEq s t):DY P ops o t d y :=
 h.of e.n (fun b x hx=>by rw [← e.H];exact hx) e.gl (fun x _=>e.ev x) (fun _ _ q _ _=>e.env q)
theorem ev_put {s:St} {d:Nat} {y:AV} {x:Operand} (h:x≠.tmp d):(s.put d y).ev x=s.ev x:=by
 cases x with
 | tmp i =>
  simp only [St.ev,St.put,az]
  rw [if_neg (fun e=>h (by rw [e]))]
 | _=>rfl
theorem ix {o:Oper} {d:Nat} (h:d ∉ o.looksAt ops):(∀ x∈o.op.operands,x≠.tmp d)∧∀ j want q,o.guard=some (j,want)→(ops[j]?).bind (·.dst)=some q→q≠d:=by
 refine ⟨fun x hx e=>h ?_,fun j want q hg hq e=>h ?_⟩
 ·subst e
  exact List.mem_append_left _ (List.mem_filterMap.2 ⟨.tmp d,by simpa using hx,rfl⟩)
 ·subst e
  refine List.mem_append_right _ ?_
  rw [hg];dsimp only;rw [hq];simp
theorem DY.put {o:Oper} {s:St} {d:Nat} {y:AV} (h:DY P ops o s d y) {d':Nat} (y':AV) (hl:d' ∉ o.looksAt ops):DY P ops o (s.put d' y') d y:=by
 obtain ⟨h1,h2⟩:=ix hl
 refine h.of rfl (fun _ _ hx=>hx) rfl (fun x hx=>(ev_put (h1 x hx)).symm) (fun j want q hg hq=>?_)
 simp only [St.put,az];rw [if_neg (Ne.symm (h2 j want q hg hq))]
theorem DY.unput {o:Oper} {s:St} {d:Nat} {y:AV} {d':Nat} {y':AV} (h:DY P ops o (s.put d' y') d y) (hl:d' ∉ o.looksAt ops):DY P ops o s d y:=by
 obtain ⟨h1,h2⟩:=ix hl
 refine h.of rfl (fun _ _ hx=>hx) rfl (fun x hx=>ev_put (h1 x hx)) (fun j want q hg hq=>?_)
 simp only [St.put,az];rw [if_neg (Ne.symm (h2 j want q hg hq))]
def bW (P:Program) (ops:Array Oper) (L:St→Prop):List Oper→St→Prop
 | [],st=>L st
 | o::rest,st=>∃ d y,DY P ops o st d y∧bW P ops L rest (st.put d y)
instance {L:St→Prop}:Walk P (bW P ops L) where
 step:=fun hg hdst hd hq h=>⟨_,_,⟨hdst,hd,.inl ⟨hg,hq⟩⟩,h⟩
theorem ds_nil {L:St→Prop} {st:St} (h:L st):bW P ops L [] st:=h
theorem ds_guard_t {L:St→Prop} {rest:List Oper} {st:St} {dst:Option Tmp} {op:Op} {ty:TypeId} {pos:String} {af:Array Edge} {j t:Nat} {want b:Bool} (hj:(ops[j]?).bind (·.dst)=some t) (hb:bf t st.env=some (.c (.v (.bool b)))) (hw:b=want)
  (h:bW P ops L (⟨dst,op,ty,pos,af,none⟩::rest) st):bW P ops L (⟨dst,op,ty,pos,af,some (j,want)⟩::rest) st:=by
 obtain ⟨d,y,⟨h1,h2,h3⟩,h4⟩:=h
 refine ⟨d,y,⟨h1,h2,.inr (.inl ⟨j,want,t,b,rfl,hj,hb,.inl ⟨hw,?_⟩⟩)⟩,h4⟩
 rcases h3 with ⟨_,q⟩|⟨_,_,_,_,g,_⟩|⟨_,_,_,g,_⟩
 ·exact q.guard
 ·cases g
 ·cases g
theorem ds_guard_f {L:St→Prop} {rest:List Oper} {st:St} {d:Nat} {op:Op} {ty:TypeId} {pos:String} {af:Array Edge} {j t:Nat} {want b:Bool} (hj:(ops[j]?).bind (·.dst)=some t) (hb:bf t st.env=some (.c (.v (.bool b)))) (hw:b=!want) (hd:Nat.blt d st.n=true)
  (h:bW P ops L rest (st.put d (.c (.v undef)))):bW P ops L (⟨some d,op,ty,pos,af,some (j,want)⟩::rest) st :=
 ⟨d,_,⟨rfl,hd,.inr (.inl ⟨j,want,t,b,rfl,hj,hb,.inr ⟨by rw [hw];cases want<;>simp,rfl⟩⟩)⟩,h⟩
theorem ds_guard {L:St→Prop} {rest:List Oper} {st:St} {d:Nat} {op:Op} {ty:TypeId} {pos:String} {af:Array Edge} {j t:Nat} {want b:Bool} (hj:(ops[j]?).bind (·.dst)=some t) (hb:bf t st.env=some (.c (.v (.bool b)))) (hd:Nat.blt d st.n=true)
  (h:b=want→bW P ops L (⟨some d,op,ty,pos,af,none⟩::rest) st) (h':b=!want→bW P ops L rest (st.put d (.c (.v undef)))):bW P ops L (⟨some d,op,ty,pos,af,some (j,want)⟩::rest) st:=by
 by_cases hw:b=want
 ·exact ds_guard_t hj hb hw (h hw)
 ·have hw':b=!want:=by cases b<;>cases want<;>simp_all
  exact ds_guard_f hj hb hw' hd (h' hw')
theorem ds_guard_n {L:St→Prop} {rest:List Oper} {st:St} {d:Nat} {op:Op} {ty:TypeId} {pos:String} {af:Array Edge} {j t:Nat} {want:Bool} (hj:(ops[j]?).bind (·.dst)=some t) (hb:bf t st.env=some (.c (.v undef))) (hd:Nat.blt d st.n=true)
  (h:bW P ops L rest (st.put d (.c (.v undef)))):bW P ops L (⟨some d,op,ty,pos,af,some (j,want)⟩::rest) st :=
 ⟨d,_,⟨rfl,hd,.inr (.inr ⟨j,want,t,rfl,hj,hb,rfl⟩)⟩,h⟩
def DAny (P:Program) (md:Region.Mode) (ops:Array Oper) (n:Nat) (L:Array Bool→St→Prop):Nat→Array Bool→St→Prop
 | 0,listed,st=>L listed st
 | f+1,listed,st=>Region.ready md ops listed≠[]∧∀ i∈Region.ready md ops listed,i < n∧∃ o d y,ops[i]?=some o∧DY P ops o st d y∧DAny P md ops n L f (listed.setIfInBounds i true) (st.put d y)
variable {md:Region.Mode} {n:Nat} {L:Array Bool→St→Prop}
theorem DAny.eq (hL:∀ listed s t,StEq s t→L listed s→L listed t):∀ (f:Nat) (listed:Array Bool) (s t:St),StEq s t→DAny P md ops n L f listed s→DAny P md ops n L f listed t
 | 0,listed,s,t,e,h=>hL listed s t e h
 | f+1,listed,s,t,e,h=>⟨h.1,fun i hi=>by
  obtain ⟨h1,o,d,y,h2,h3,h4⟩:=h.2 i hi
  exact ⟨h1,o,d,y,h2,h3.eq e,DAny.eq hL f _ _ _ (e.put d y) h4⟩⟩
theorem DAny_first {i:Nat} {oi:Oper} (hi:ops[i]?=some oi) (hin:i < n) (hL:∀ listed s t,StEq s t→L listed s→L listed t) (hdone:∀ listed st,L listed st→∀ j∈Region.ready md ops listed,n≤j)
  (htail:∀ listed,HeadInv md ops n listed→∀ i,i < n→listed.getD i true=false→∀ t,n≤t→t ∉ Region.ready md ops listed) :
  ∀ (f:Nat) (listed:Array Bool) (st:St) (d:Nat) (y:AV),HeadInv md ops n listed →
   (∀ j oj,ops[j]?=some oj→j≠i→listed.getD j true=false→(∀ e∈oj.after,Region.binds md e=true→e.on≠i)→oi.apart ops oj=true) →
   i∈Region.ready md ops listed→DY P ops oi st d y→DAny P md ops n L f (listed.setIfInBounds i true) (st.put d y)→DAny P md ops n L (f+1) listed st:=by
 intro f
 induction f with
 | zero =>
  intro listed st d y inv hfree hr hy H
  refine ⟨fun h0=>(by rw [h0] at hr;cases hr),fun j hj=>?_⟩
  have hjn:j < n:=Nat.lt_of_not_le fun hc=>htail listed inv i hin (mem_ready.1 hr).1 j hc hj
  by_cases hji:j=i
  ·subst hji;exact ⟨hjn,oi,d,y,hi,hy,H⟩
  ·have:=hdone _ _ H j (ready_mono hj hji)
   omega
 | succ f ih =>
  intro listed st d y inv hfree hr hy H
  refine ⟨fun h0=>(by rw [h0] at hr;cases hr),fun j hj=>?_⟩
  have hjn:j < n:=Nat.lt_of_not_le fun hc=>htail listed inv i hin (mem_ready.1 hr).1 j hc hj
  by_cases hji:j=i
  ·subst hji;exact ⟨hjn,oi,d,y,hi,hy,H⟩
  ·obtain ⟨_,oj,dj,yj,h2,h3,h4⟩:=H.2 j (ready_mono hj hji)
   obtain ⟨hjun,oj',hoj,hall⟩:=mem_ready.1 hj
   have hoo:oj'=oj:=Option.some.inj (hoj.symm.trans h2)
   subst hoo
   have hnot:∀ e∈oj'.after,Region.binds md e=true→e.on≠i:=fun e he hb heq=>by
    have h1:=hall e he hb
    have h0:=getD_both (mem_ready.1 hr).1
    rw [heq,h0] at h1
    cases h1
   obtain ⟨a1,a2,a3⟩:=Oper.apart_spec (hfree j oj' hoj hji hjun hnot)
   have hdi:oi.dst=some d:=hy.1
   have hdj:oj'.dst=some dj:=h3.1
   have hne:d≠dj:=fun e=>a2 d hdi (by rw [hdj,e])
   have h3':=h3.unput (a1 d hdi)
   refine ⟨hjn,oj',dj,yj,h2,h3',?_⟩
   have hfree':∀ k ok,ops[k]?=some ok→k≠i→(listed.setIfInBounds j true).getD k true=false→(∀ e∈ok.after,Region.binds md e=true→e.on≠i)→oi.apart ops ok=true:=fun k ok hk hki hun hno=>by
    refine hfree k ok hk hki ?_ hno
    by_cases hjk:j=k
    ·subst hjk;exact hjun
    ·rw [getD_set_ne true hjk] at hun;exact hun
   refine ih (listed.setIfInBounds j true) (st.put dj yj) d y (inv.set hj hjn) hfree' (ready_mono hr (Ne.symm hji)) (hy.put yj (a3 dj hdj)) ?_
   rw [Array.setIfInBounds_comm _ _ hji]
   exact DAny.eq hL f _ _ _ (StEq.comm st hne y yj) h4
theorem DAny_lex {g:Nat} {Lq:St→Prop} (hLq:∀ s t,StEq s t→Lq s→Lq t)
  (htail:∀ listed,HeadInv md ops n listed→∀ i,i < n→listed.getD i true=false→∀ t,n≤t→t ∉ Region.ready md ops listed) :
  ∀ (l:List Oper) (k:Nat) (listed:Array Bool) (st:St),(∀ j,j < l.length→l[j]?=ops[k+j]?)→k+l.length=n→HeadInv md ops n listed →
  Region.lexHead md ops g l.length k listed=true→bW P ops Lq l st→DAny P md ops n (fun listed' st'=>Region.seqB md ops g n listed'=true∧Lq st') l.length listed st
 | [],k,listed,st,_,hk,_,hB,h=>by
  have:k=n:=by simpa using hk
  subst this
  exact ⟨by simpa [Region.lexHead] using hB,h⟩
 | o::l,k,listed,st,hl,hk,inv,hB,h=>by
  have h0:ops[k]?=some o:=by simpa using (hl 0 (by simp)).symm
  simp only [List.length_cons,Region.lexHead,Bool.and_eq_true] at hB
  obtain ⟨⟨hr,hf⟩,hB'⟩:=hB
  have hkn:k < n:=by simp only [List.length_cons] at hk;omega
  have hr':k∈Region.ready md ops listed:=by simpa using hr
  obtain ⟨d,y,hy,hK⟩:=h
  exact DAny_first h0 hkn (fun listed s t e hh=>⟨hh.1,hLq s t e hh.2⟩) (fun listed' st' hL=>seqB_ready hL.1) htail l.length listed st d y inv (Region.free_spec h0 hf) hr' hy
   (DAny_lex hLq htail l (k+1) _ _ (fun j hj=>by have:=hl (j+1) (by simp;omega);simpa [Nat.add_assoc,Nat.add_comm 1 j] using this) (by simp only [List.length_cons] at hk;omega) (inv.set hr' hkn) hB' hK)
theorem DY.wp {base:Nat} {w0:W0} {st:St} {M:Wd} {a:Act} {i:Nat} {o:Oper} {d:Nat} {y:AV} {K:Act→World→Prop} {Q':Exit→Act→World→Prop} (hi:ops[i]?=some o) (h:DY P ops o st d y) (hs:Sim base w0 st M a)
  (hK:∀ M' a',Ext M M'→Sim base w0 (st.put d y) M' a'→K a' M'.w):wpOp P ops Q' i K a M.w:=by
 obtain ⟨h1,h2,h3⟩:=h
 have run:gx P o st y→o.wp P a M.w K Q':=fun q=>q base w0 M a (hs.toO o) K Q' fun u M' hext hsim hu=>hK M' _ hext (by rw [h1];exact (hsim st hs).put h2 hu)
 have skip:y=.c (.v undef)→K (a.put o.dst undef) M.w:=fun hy=>hK M _ (Ext.refl M) (by rw [h1];subst hy;exact hs.put h2 (.c (.v undef)))
 unfold wpOp
 simp only [hi]
 rcases h3 with ⟨g,q⟩|⟨j,want,t,b,g1,g2,g3,g4⟩|⟨j,want,t,g1,g2,g3,g4⟩
 ·rw [if_pos (by simp [Region.wanted,g])]
  exact .inl (run q)
 ·obtain ⟨v,e1,e2⟩:=hs.env t _ g3
  have e3:=e2.bool
  subst e3
  have hy:yielded ops a.tmps j=some b:=by unfold yielded;rw [g2];simp [e1]
  rcases g4 with ⟨hb,q⟩|⟨hb,q⟩
  ·rw [if_pos (by simp [Region.wanted,g1,hy,hb])]
   exact .inl (run q)
  ·rw [if_neg (by simp [Region.wanted,g1,hy,hb])]
   exact skip q
 ·obtain ⟨v,e1,e2⟩:=hs.env t _ g3
  have e3:=e2.bool
  subst e3
  have hy:yielded ops a.tmps j=none:=by unfold yielded;rw [g2];simp [e1,undef]
  rw [if_neg (by simp [Region.wanted,g1,hy])]
  exact skip g4
theorem gM {base:Nat} {w0:W0} {M0:Wd} {Q:Exit→St→Prop} {g:Nat} (hL:∀ listed st M a,L listed st→Sim base w0 st M a→Ext M0 M→wpAny P md ops (bN base w0 M0 Q) g listed a M.w) :
  ∀ (f:Nat) (listed:Array Bool) (st:St) (M:Wd) (a:Act),Sim base w0 st M a→Ext M0 M→DAny P md ops n L f listed st→wpAny P md ops (bN base w0 M0 Q) (f+g) listed a M.w
 | 0,listed,st,M,a,hs,he,h=>by rw [Nat.zero_add];exact hL _ _ _ _ h hs he
 | f+1,listed,st,M,a,hs,he,h=>by
  rw [show f+1+g=(f+g)+1 by omega]
  refine ⟨fun h0=>absurd h0 h.1,fun i hi=>?_⟩
  obtain ⟨_,o,d,y,h1,h2,h3⟩:=h.2 i hi
  exact h2.wp h1 hs fun M' a' hext hs'=>gM hL f _ _ M' a' hs' (he.trans hext) h3
def Wd.drew (M:Wd):Wd:={ M with w:={ M.w with drawn:=M.w.drawn+1 } }
theorem Ext.drew (M:Wd):Ext M M.drew:=⟨fun _ _ h=>h,fun b E size l' _ h=>⟨l',h,Nat.le_refl _,fun _=>rfl⟩,Nat.le_refl _,fun _ h=>⟨h,rfl⟩⟩
theorem Sim.drew {base:Nat} {w0:W0} {st:St} {M:Wd} {a:Act} (hs:Sim base w0 st M a):Sim base w0 st M.drew a:=by
 have hext:=Ext.drew M
 refine ⟨hs.H,hs.nx,hs.n,fun i y hy=>?_,fun g xs hg=>(hs.gl g xs hg).mono hext,⟨?_,?_,hs.heap.sep,hs.heap.lt,hs.heap.fresh,hs.heap.frz,?_⟩,⟨hs.below.os,hs.below.tape,hs.below.output,hs.below.size,hs.below.block⟩,hs.base,hs.defs,hs.old⟩
 ·obtain ⟨v,h1,h2⟩:=hs.env i y hy
  exact ⟨v,h1,h2.mono hext⟩
 ·intro b t l hl
  obtain ⟨g,arr,e1,e2,e3,e4,e5,e6⟩:=hs.heap.cells b t l hl
  exact ⟨g,arr,e1,e2,e3,e4,e5,fun i y u h1 h2=>(e6 i y u h1 h2).mono hext⟩
 ·intro b E size l hl
  obtain ⟨v,n,cs,e1,e2,e3,e4,e5,e6⟩:=hs.heap.vec b E size l hl
  exact ⟨v,n,cs,e1,e2,e3,e4,fun i y u h1 h2=>(e5 i y u h1 h2).mono hext.F,e6⟩
 ·intro b p hp
  obtain ⟨g,e1,e2,e3,e4,e5⟩:=hs.heap.obj b p hp
  exact ⟨g,e1,e2,p.stable _ _ _ _ _ _ e3 hext.F (fun _ _=>rfl),e4,e5⟩
def drawB (ops:Array Oper) (n:Nat):Bool :=
 Region.noSelect ops && Nat.ble n ops.size && (Nat.beq n ops.size || (Region.sinkB .any ops n && Region.chainB .any ops n)) && Region.lexHead .any ops (ops.size - n) n 0 (Array.replicate ops.size false)
theorem aw_draw {id:Nat} {l:List Oper} {Q:Exit→St→Prop} {st:St} (n:Nat) (hm:P.follows .mixedOrders=true) (hB:drawB l.toArray n=true)
  (h:bW P l.toArray (aP P l.toArray Q (l.drop n)) (l.take n) st):gf P (.region id l.toArray true) Q st:=by
 simp only [drawB,Bool.and_eq_true,Bool.or_eq_true] at hB
 obtain ⟨⟨⟨hsel,hle⟩,hcase⟩,hlex⟩:=hB
 have hle:=Nat.le_of_ble_eq_true hle
 have hle':n≤l.length:=by simpa using hle
 have htl:(l.take n).length=n:=by simp;omega
 have hdl:(l.drop n).length=l.toArray.size - n:=by simp
 have inv0:HeadInv .any l.toArray n (Array.replicate l.toArray.size false) :=
  ⟨by simp,fun j oj _ hl=>(by rw [getD_replicate_false] at hl;cases hl),fun t _ ht=>getD_in (by simpa using ht) (getD_replicate_false _ _)⟩
 have htail:∀ listed,HeadInv .any l.toArray n listed→∀ i,i < n→listed.getD i true=false→∀ t,n≤t→t ∉ Region.ready .any l.toArray listed:=by
  intro listed inv i hi hun t ht
  rcases hcase with he|⟨hs,hc⟩
  ·intro hr
   obtain ⟨_,o,ho,_⟩:=mem_ready.1 hr
   have:=(Array.getElem?_eq_some_iff.1 ho).1
   have:=cu he
   omega
  ·rcases Nat.lt_or_ge n l.toArray.size with hn|hn
   ·exact tail_waits hs hc hn inv _ i rfl hi hun t ht
   ·intro hr
    obtain ⟨_,o,ho,_⟩:=mem_ready.1 hr
    have:=(Array.getElem?_eq_some_iff.1 ho).1
    omega
 intro base w0 M a hs
 have H:=DAny_lex (P:=P) (md:=.any) (ops:=l.toArray) (n:=n) (g:=l.toArray.size - n) (Lq:=aP P l.toArray Q (l.drop n)) (fun s t e hh=>fun base w0 M a hs'=>hh base w0 M a (e.symm.sim hs')) htail (l.take n) 0 _ st (fun j hj=>by
  have hj':j < n:=by rw [htl] at hj;exact hj
  simp [hj']) (by simpa using htl) inv0 (by rw [htl];exact hlex) h
 refine wp_region_any hm ?_
 have:=gM (P:=P) (md:=.any) (ops:=l.toArray) (n:=n) (base:=base) (w0:=w0) (M0:=M) (Q:=Q) (g:=l.toArray.size - n) (fun listed st' M' a' hL hs' he=>by
  have h1:=aM (fun e a w=>bN.ext he) _ _ _ (hL.2 base w0 M' a' hs')
  have h2:=wpAny_of_seq (md:=.any) (l.drop n) n listed a' M'.w (fun j=>by simp) (by rw [hdl];exact hL.1) h1
  rwa [hdl] at h2) (l.take n).length (Array.replicate l.toArray.size false) st M.drew a hs.drew (Ext.drew M) H
 rw [htl] at this
 rw [show n+(l.toArray.size - n)=l.toArray.size by omega] at this
 exact this
class Mixed (P:Program):Prop where
 h:P.follows .mixedOrders=true
theorem aw_drawq {id:Nat} {l:List Oper} {Q:Exit→St→Prop} {st:St} [m:Mixed P] (hB:drawB l.toArray l.length=true) (h:bW P l.toArray (aP P l.toArray Q []) l st):gf P (.region id l.toArray true) Q st :=
 aw_draw l.length m.h hB (by rw [List.take_length,List.drop_length];exact h)
theorem aL {id:Nat} {l:List Oper} {Q:Exit→St→Prop} {st:St} [m:Mixed P] (n:Nat) (hB:drawB l.toArray n=true) (h:bW P l.toArray (aP P l.toArray Q (l.drop n)) (l.take n) st):gf P (.region id l.toArray true) Q st :=
 aw_draw n m.h hB h
end
end Go.Proofs.YtdndfncpglfdeaaGreatDoor.Ev
