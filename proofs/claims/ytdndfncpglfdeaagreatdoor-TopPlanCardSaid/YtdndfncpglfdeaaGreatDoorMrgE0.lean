/- Kit Ev1 Ev2 Ev3 Ev4: texts laid together. -/
import Derived.WalkKit
import Derived.WalkSpells
import Derived.WalkLawsBesides
import Derived.Lib.Hide
import Derived.Deep.AppendLies
import Derived.IntWalk
import Derived.Deep.MidRow
import Derived.Laws.CopyRow
import Derived.Maps.AppendAt
import Derived.OwnWalk

namespace Go.Proofs.YtdndfncpglfdeaaGreatDoor
theorem qz:(∀ (p:Prop) [Decidable p],(decide p=true)=p)∧(∀ (p:Prop) [Decidable p],(decide p=false)=¬ p)∧(∀ b:Bool,((!b)=true)=(b=false))∧(∀ b:Bool,((!b)=false)=(b=true))∧((!true)=false)∧((!false)=true)∧(∀ b:Bool,(!!b)=b)∧(∀ a b:Int,(¬ a < b)=(b≤a))∧(∀ a b:Int,(¬ a≤b)=(b < a))∧(∀ a b:Nat,(¬ a < b)=(b≤a))∧(∀ a b:Nat,(¬ a≤b)=(b < a))∧(∀ (α:Type) [LT α] (a b:α),(a > b)=(b < a)) :=
 ⟨fun _ _=>decide_eq_true_eq,fun _ _=>propext decide_eq_false_iff_not,fun b=>by cases b<;>simp,fun b=>by cases b<;>simp,rfl,rfl,fun b=>by cases b<;>rfl,fun _ _=>propext Int.not_lt,fun _ _=>propext Int.not_le,fun _ _=>propext Nat.not_lt,fun _ _=>propext Nat.not_le,fun _ _ _ _=>rfl⟩
end Go.Proofs.YtdndfncpglfdeaaGreatDoor
namespace Go.Proofs.YtdndfncpglfdeaaGreatDoor.Kit
set_option linter.unusedVariables false
set_option linter.unusedSimpArgs false
open Go.RowKit
structure SlTy {α:Type} (P:Program) (t E:TypeId) (size bytes:Nat) (enc:α→List Value):Prop where
 und:P.underlying t=some (.slice E)
 info:∃ i z,P.info? E=some i∧i.zero=some z∧i.size=size∧i.bytes=bytes∧z.cells.size=size
 pos:0 < size
 len:∀ x,(enc x).length=size
 one:∀ x u,u∈enc x→u.oneCell'=true
def Own {α:Type} (E:TypeId) (size:Nat) (enc:α→List Value) (w:World) (B:Nat) (v:Value) (l:List α):Prop :=
 w.ownsRow B E size v l.length (l.flatMap enc)
section
variable {α:Type} {P:Program} {t E:TypeId} {size bytes:Nat} {enc:α→List Value}
theorem Own.nil (w:World) (B:Nat):Own E size enc w B (.slice none 0 0) ([]:List α):=World.ownsRow_nil w B E size
theorem addr_add (g o j:Nat):(Addr.add ⟨g,o,none⟩ j)=⟨g,o+j,none⟩:=by
 unfold Addr.add
 split
 ·subst j;rfl
 ·rfl
theorem Own.alloc {w:World} {B:Nat} {v:Value} {l:List α} (h:Own E size enc w B v l) (o:Obj):Own E size enc (w.alloc o) B v l:=World.ownsRow.alloc h o
theorem Own.below {w w':World} {B C:Nat} {v:Value} {l:List α} (h:Own E size enc w B v l) (hb:Below C w w') (hC:∀ k,v.ownBlock=some k→k < C):Own E size enc w' B v l:=by
 obtain ⟨h1,h2⟩:=h
 refine ⟨h1,?_⟩
 rcases h2 with hn|⟨g,cap,cur,rfl,hg,hh,r⟩
 ·exact Or.inl hn
 ·exact Or.inr ⟨g,cap,cur,rfl,hg,by rw [hb.block g (hC g rfl)];exact hh,r⟩
theorem Own.mono {w:World} {B B':Nat} {v:Value} {l:List α} (h:Own E size enc w B v l) (hB:B'≤B):Own E size enc w B' v l:=by
 obtain ⟨h1,h2⟩:=h
 refine ⟨h1,?_⟩
 rcases h2 with hn|⟨g,cap,cur,rfl,hg,hh,r⟩
 ·exact Or.inl hn
 ·exact Or.inr ⟨g,cap,cur,rfl,by omega,hh,r⟩
theorem wp_append1 (T:SlTy P t E size bytes enc) {ops:Array Oper} {rest:List Oper} {o:Oper} {a:Act} {Q:Exit→Act→World→Prop}
  (hg:o.guard=none) (s x:Operand) (hop:o.op=Op.call { callee:=Callee.builtin Builtin.append,args:=#[s,x],argTypes:=#[t,t] })
  (wr:World) (B:Nat) (v:Value) (l:List α) (hs:a.eval s=v) (hown:Own E size enc wr B v l) (c:α) (C:Array Value) (TT:TypeId)
  (hx:a.eval x=.slice (some ⟨wr.heap.size,0,none⟩) 1 1) (hC:C.toList=enc c) (hl:l.length+1≤maxLen) (hb:(l.length+1) * bytes≤140737488355328) (hB:B≤wr.heap.size)
  (hk:∀ v' w',Own E size enc w' B v' (l++[c])→Below B wr w'→wr.grownBy w' v.ownBlock→wr.heap.size < w'.heap.size→wpList P ops Q rest (a.put o.dst v') w') :
  wpList P ops Q (o::rest) a (wr.alloc (.cells C TT)):=by
 obtain ⟨i,z,hi,hz0,hz1,hz2,hz3⟩:=T.info
 refine wpList_append_own _ hg s x t hop B E i z size bytes T.und hi hz0 hz1 hz2 hz3 T.pos v l.length (l.flatMap enc) hs (World.ownsRow.alloc hown _) ⟨wr.heap.size,0,none⟩ 1 1 (enc c) hx (by rw [T.len];omega) ?_ (T.one c) hl hb (by simp;omega) ?_
 ·intro j u hj
  rw [addr_add,World.cell?_alloc_mark,← Array.getElem?_toList,hC]
  simpa using hj
 ·intro v' w' h1 h2 _
  have hgb:wr.grownBy w' v.ownBlock:=⟨h2.os,h2.tape,h2.output,by have:=h2.size;simp at this;omega,fun k hk hne=>by
   rw [h2.block k (by simp;omega) hne]
   exact Below.heap_alloc _ _ _ hk⟩
  refine hk v' w' ?_ ?_ hgb ?_
  ·unfold Own
   simp only [List.length_append,List.length_cons,List.length_nil,Nat.zero_add,List.flatMap_append,List.flatMap_cons,List.flatMap_nil,List.append_nil]
   exact h1
  ·exact (Below.refl _ _).grown hgb hB (fun k hk=>(World.ownsRow.lt hown k hk).1)
  ·have:=h2.size;simp at this;omega
theorem av (henc:∀ x,(enc x).length=size):∀ l:List α,(l.flatMap enc).length=l.length * size
 | []=>by simp
 | x::l=>by rw [List.flatMap_cons,List.length_append,henc,av henc l,List.length_cons,Nat.add_mul];omega
theorem flat_get (henc:∀ x,(enc x).length=size):∀ (l:List α) (i j:Nat) (x:α),l[i]?=some x→j < size→(l.flatMap enc)[i * size+j]?=(enc x)[j]?
 | [],i,j,x,h,_=>by simp at h
 | y::l,0,j,x,h,hj=>by
  have e:y=x:=by simpa using h
  subst e
  rw [List.flatMap_cons,Nat.zero_mul,Nat.zero_add,List.getElem?_append_left (by rw [henc];exact hj)]
 | y::l,i+1,j,x,h,hj=>by
  rw [List.flatMap_cons,List.getElem?_append_right (by rw [henc,Nat.add_mul];omega),henc,show (i+1) * size+j - size=i * size+j from by rw [Nat.add_mul];omega]
  exact flat_get henc l i j x (by simpa using h) hj
def Sl (size:Nat) (enc:α→List Value) (w:World) (hi:Nat) (v:Value) (l:List α):Prop :=
 ∃ ad cap,v=.slice ad l.length cap∧l.length≤cap∧(l=[]∨∃ b off,ad=some ⟨b,off,none⟩∧b < hi∧∀ (i j:Nat) (x:α),l[i]?=some x→j < size→w.cell? ⟨b,off+(i * size+j),none⟩=(enc x)[j]?)
theorem Sl.below {w w':World} {hi B:Nat} {v:Value} {l:List α} (h:Sl size enc w hi v l) (hb:Below B w w') (hB:hi≤B):Sl size enc w' hi v l:=by
 obtain ⟨ad,cap,hv,hc,h⟩:=h
 refine ⟨ad,cap,hv,hc,?_⟩
 rcases h with h|⟨b,off,ha,hlt,h⟩
 ·exact Or.inl h
 ·refine Or.inr ⟨b,off,ha,hlt,fun i j x h1 h2=>?_⟩
  rw [hb.cell (p:=⟨b,off+(i * size+j),none⟩) (by show b < B;omega)]
  exact h i j x h1 h2
theorem Sl.mono {w:World} {hi hi':Nat} {v:Value} {l:List α} (h:Sl size enc w hi v l) (hb:hi≤hi'):Sl size enc w hi' v l:=by
 obtain ⟨ad,cap,hv,hc,h⟩:=h
 refine ⟨ad,cap,hv,hc,?_⟩
 rcases h with h|⟨b,off,ha,hlt,h⟩
 ·exact Or.inl h
 ·exact Or.inr ⟨b,off,ha,by omega,h⟩
theorem Own.take {w:World} {B:Nat} {g m cap:Nat} {l:List α} (henc:∀ x,(enc x).length=size) (h:Own E size enc w B (.slice (some ⟨g,0,none⟩) m cap) l) (n:Nat) (hn:n≤l.length):Own E size enc w B (.slice (some ⟨g,0,none⟩) n cap) (l.take n):=by
 obtain ⟨h1,h2⟩:=h
 have hlen:(l.take n).length=n:=by rw [List.length_take];omega
 refine ⟨av henc _,Or.inr ?_⟩
 rcases h2 with ⟨h2,_⟩|⟨g',cap',cur,hv,hg,hh,hc1,hc2,hc3,htk⟩
 ·simp at h2
 ·simp only [Value.slice.injEq,Option.some.injEq,Addr.mk.injEq] at hv
  obtain ⟨⟨rfl,_,_⟩,rfl,rfl⟩:=hv
  refine ⟨g,cap,cur,by rw [hlen],hg,hh,by omega,hc2,hc3,?_⟩
  rw [hlen]
  have e:cur.toList.take (n * size)=(cur.toList.take (l.length * size)).take (n * size):=by
   rw [List.take_take,Nat.min_eq_left (Nat.mul_le_mul_right _ hn)]
  rw [e,htk]
  have e2:l.flatMap enc=(l.take n).flatMap enc++(l.drop n).flatMap enc:=by rw [← List.flatMap_append,List.take_append_drop]
  rw [e2,List.take_left' (by rw [av henc,hlen])]
theorem Sl.other {w w':World} {hi:Nat} {v:Value} {l:List α} (h:Sl size enc w hi v l) (hk:∀ k,v.ownBlock=some k→l≠[]→k < hi→w'.heap[k]?=w.heap[k]?):Sl size enc w' hi v l:=by
 obtain ⟨ad,cap,rfl,hc,h⟩:=h
 refine ⟨ad,cap,rfl,hc,?_⟩
 rcases h with h|⟨b,off,rfl,hlt,h⟩
 ·exact Or.inl h
 ·by_cases hl:l=[]
  ·exact Or.inl hl
  ·refine Or.inr ⟨b,off,rfl,hlt,fun i j x h1 h2=>?_⟩
   have e:w'.cell? ⟨b,off+(i * size+j),none⟩=w.cell? ⟨b,off+(i * size+j),none⟩:=World.cell?_of_block (hk b rfl hl hlt)
   rw [e];exact h i j x h1 h2
end
#print axioms wp_append1
end Go.Proofs.YtdndfncpglfdeaaGreatDoor.Kit

namespace Go.Proofs.YtdndfncpglfdeaaGreatDoor.Ev
set_option linter.unusedVariables false
set_option linter.unusedSimpArgs false
open Go.RowKit
inductive CV where
 | v (x:Value)
 | agg (xs:List CV)
 | tup (xs:List CV)
 | lst (size:Nat) (xs:List CV)
 | e0
inductive AV where
 | c (x:CV)
 | agg (xs:List AV)
 | tup (xs:List AV)
 | ptr (b off:Nat)
 | vec (b n:Nat)
 | vptr (b n off:Nat)
 | eptr (xs:List CV) (off:Nat)
 | fn (f:FuncId) (cap:List AV)
 | ghost (b n:Nat) (v:Value)
 | ref (b:Nat) (f:Nat→Value)
structure ObjP where
 holds:(Nat→Prop)→World→Nat→(Nat→Prop)→Prop
 stable:∀ (F F':Nat→Prop) (w w':World) (g:Nat) (fp:Nat→Prop),holds F w g fp→(∀ k,F k→F' k∧w'.heap[k]?=w.heap[k]?)→(∀ k,fp k→w'.heap[k]?=w.heap[k]?)→holds F' w' g fp
inductive AB where
 | cells (t:TypeId) (l:List AV)
 | vec (E:TypeId) (size:Nat) (l:List CV)
 | obj (p:ObjP)
inductive Conc where
 | blk (g:Nat)
 | row (v:Value)
def Conc.block:Conc→Option Nat
 | .blk g=>some g
 | .row v=>v.ownBlock
def bf {α:Type} (k:Nat):List (Nat×α)→Option α
 | []=>none
 | (i,x)::l=>bif Nat.beq i k then some x else bf k l
structure St where
 n:Nat
 env:List (Nat×AV)
 heap:List (Nat×Option AB)
 nx:Nat
 gl:List (Nat×List CV)
def St.H (s:St) (b:Nat):Option AB:=match bf b s.heap with|some (some x)=>some x|_=>none
def St.put (s:St) (d:Nat) (x:AV):St:={ s with env:=(d,x)::s.env }
def St.set (s:St) (b:Nat) (x:AB):St:={ s with heap:=(b,some x)::s.heap }
def St.new (s:St) (x:AB):St:={ s with heap:=(s.nx,some x)::s.heap,nx:=s.nx+1 }
def St.ev (s:St):Operand→Option AV
 | .tmp t=>bf t s.env
 | .const v=>some (.c (.v v))
 | .global g=>(bf g s.gl).map (fun xs=>.eptr xs 0)
 | .func f=>some (.fn f [])
structure Wd where
 m:Nat→Conc
 H:Nat→Option AB
 nx:Nat
 F:Nat→Prop
 w:World
 fp:Nat→Nat→Prop
inductive RC (F:Nat→Prop) (w:World):CV→Value→Prop
 | v (x:Value):RC F w (.v x) x
 | agg {xs:List CV} {vs:Array Value} (hl:xs.length=vs.size) (h:∀ (i:Nat) (x:CV) (u:Value),xs[i]?=some x→vs[i]?=some u→RC F w x u):RC F w (.agg xs) (.agg vs)
 | tup {xs:List CV} {vs:Array Value} (hl:xs.length=vs.size) (h:∀ (i:Nat) (x:CV) (u:Value),xs[i]?=some x→vs[i]?=some u→RC F w x u):RC F w (.tup xs) (.tuple vs)
 | nil {size cap:Nat} {ad:Option Addr}:RC F w (.lst size []) (.slice ad 0 cap)
 | e0 {ad:Option Addr}:RC F w .e0 (.slice ad 0 0)
 | lst {size blk off n cap:Nat} {xs:List CV} (cs:Nat→Value) (hn:xs.length=n * size) (hc:n≤cap) (hF:F blk)
   (hcell:∀ (i:Nat) (x:CV),xs[i]?=some x→w.cell? ⟨blk,off+i,none⟩=some (cs i)) (hr:∀ (i:Nat) (x:CV),xs[i]?=some x→RC F w x (cs i)):RC F w (.lst size xs) (.slice (some ⟨blk,off,none⟩) n cap)
inductive RA (M:Wd):AV→Value→Prop
 | c {x:CV} {u:Value} (h:RC M.F M.w x u):RA M (.c x) u
 | agg {xs:List AV} {vs:Array Value} (hl:xs.length=vs.size) (h:∀ (i:Nat) (x:AV) (u:Value),xs[i]?=some x→vs[i]?=some u→RA M x u):RA M (.agg xs) (.agg vs)
 | tup {xs:List AV} {vs:Array Value} (hl:xs.length=vs.size) (h:∀ (i:Nat) (x:AV) (u:Value),xs[i]?=some x→vs[i]?=some u→RA M x u):RA M (.tup xs) (.tuple vs)
 | ptr {b off g:Nat} (h:M.m b=.blk g):RA M (.ptr b off) (.pointer (some ⟨g,off,none⟩))
 | vec {b n:Nat} {v:Value} (hb:b < M.nx) (ho:v.oneCell'=true) (h:∀ E size l,M.H b=some (.vec E size l)→n * size≤l.length∧(l.length=n * size→M.m b=.row v)):RA M (.vec b n) v
 | vptr {b n off:Nat} {v:Value} (hb:b < M.nx) (ho:v.oneCell'=true) (h:∀ E size l,M.H b=some (.vec E size l)→n * size≤l.length∧(l.length=n * size→∃ g cap,M.m b=.row (.slice (some ⟨g,0,none⟩) n cap)∧v=.pointer (some ⟨g,off,none⟩))):RA M (.vptr b n off) v
 | eptr {xs:List CV} {off blk o:Nat} (cs:Nat→Value) (hF:M.F blk) (hcell:∀ (i:Nat) (x:CV),xs[i]?=some x→M.w.cell? ⟨blk,o+i,none⟩=some (cs i)) (hr:∀ (i:Nat) (x:CV),xs[i]?=some x→RC M.F M.w x (cs i)):RA M (.eptr xs off) (.pointer (some ⟨blk,o+off,none⟩))
 | fn {f:FuncId} {xs:List AV} {vs:Array Value} (hl:xs.length=vs.size) (h:∀ (i:Nat) (x:AV) (u:Value),xs[i]?=some x→vs[i]?=some u→RA M x u):RA M (.fn f xs) (.func (.func f) #[] vs)
 | ghost {b n:Nat} {v u:Value} (hb:b < M.nx) (ho:v.oneCell'=true) (h:∀ E size l,M.H b=some (.vec E size l)→n * size≤l.length∧(l.length=n * size→M.m b=.row v)):RA M (.ghost b n v) u
 | ref {b g:Nat} {f:Nat→Value} (h:M.m b=.blk g) (ho:(f g).oneCell'=true):RA M (.ref b f) (f g)
theorem cell_eq {w w':World} {p:Addr} (h:w'.heap[p.block]?=w.heap[p.block]?):w'.cell? p=w.cell? p:=by unfold World.cell?;rw [h]
theorem RC.mono {F F':Nat→Prop} {w w':World} (h:∀ b,F b→F' b∧w'.heap[b]?=w.heap[b]?) {x:CV} {u:Value} (hx:RC F w x u):RC F' w' x u:=by
 induction hx with
 | v x=>exact .v x
 | agg hl _ ih=>exact .agg hl ih
 | tup hl _ ih=>exact .tup hl ih
 | nil=>exact .nil
 | e0=>exact .e0
 | lst cs hn hc hF hcell _ ih =>
  refine .lst cs hn hc (h _ hF).1 (fun i x hi=>?_) ih
  rw [cell_eq (h _ hF).2];exact hcell i x hi
structure Ext (M M':Wd):Prop where
 m:∀ b g,M.m b=.blk g→M'.m b=.blk g
 v:∀ b E size l',b < M.nx→M'.H b=some (.vec E size l')→∃ l,M.H b=some (.vec E size l)∧l.length≤l'.length∧(l'.length=l.length→M'.m b=M.m b)
 nx:M.nx≤M'.nx
 F:∀ b,M.F b→M'.F b∧M'.w.heap[b]?=M.w.heap[b]?
theorem Ext.refl (M:Wd):Ext M M:=⟨fun _ _ h=>h,fun _ _ _ l' _ h=>⟨l',h,Nat.le_refl _,fun _=>rfl⟩,Nat.le_refl _,fun _ h=>⟨h,rfl⟩⟩
theorem Ext.trans {M M' M'':Wd} (h:Ext M M') (h':Ext M' M''):Ext M M'' where
 m:=fun b g hb=>h'.m b g (h.m b g hb)
 v:=fun b E size l'' hb hl=>by
  obtain ⟨l',e1,e2,e3⟩:=h'.v b E size l'' (Nat.lt_of_lt_of_le hb h.nx) hl
  obtain ⟨l,d1,d2,d3⟩:=h.v b E size l' hb e1
  exact ⟨l,d1,Nat.le_trans d2 e2,fun hh=>(e3 (by omega)).trans (d3 (by omega))⟩
 nx:=Nat.le_trans h.nx h'.nx
 F:=fun b hb=>⟨(h'.F b (h.F b hb).1).1,(h'.F b (h.F b hb).1).2.trans (h.F b hb).2⟩
theorem RA.mono {M M':Wd} (h:Ext M M') {x:AV} {u:Value} (hx:RA M x u):RA M' x u:=by
 induction hx with
 | c hx=>exact .c (hx.mono h.F)
 | agg hl _ ih=>exact .agg hl ih
 | tup hl _ ih=>exact .tup hl ih
 | ptr hb=>exact .ptr (h.m _ _ hb)
 | vec hb ho hv =>
  refine .vec (Nat.lt_of_lt_of_le hb h.nx) ho (fun E size l' hl=>?_)
  obtain ⟨l,d1,d2,d3⟩:=h.v _ E size l' hb hl
  obtain ⟨e1,e2⟩:=hv E size l d1
  exact ⟨by omega,fun hh=>by rw [d3 (by omega)];exact e2 (by omega)⟩
 | vptr hb ho hv =>
  refine .vptr (Nat.lt_of_lt_of_le hb h.nx) ho (fun E size l' hl=>?_)
  obtain ⟨l,d1,d2,d3⟩:=h.v _ E size l' hb hl
  obtain ⟨e1,e2⟩:=hv E size l d1
  exact ⟨by omega,fun hh=>by rw [d3 (by omega)];exact e2 (by omega)⟩
 | eptr cs hF hcell hr =>
  refine .eptr cs (h.F _ hF).1 (fun i x hi=>?_) (fun i x hi=>(hr i x hi).mono h.F)
  rw [cell_eq (h.F _ hF).2];exact hcell i x hi
 | fn hl _ ih=>exact .fn hl ih
 | ghost hb ho hv =>
  refine .ghost (Nat.lt_of_lt_of_le hb h.nx) ho (fun E size l' hl=>?_)
  obtain ⟨l,d1,d2,d3⟩:=h.v _ E size l' hb hl
  obtain ⟨e1,e2⟩:=hv E size l d1
  exact ⟨by omega,fun hh=>by rw [d3 (by omega)];exact e2 (by omega)⟩
 | ref hb ho=>exact .ref (h.m _ _ hb) ho
structure HeapOK (M:Wd) (base:Nat):Prop where
 cells:∀ b t l,M.H b=some (.cells t l)→∃ (g:Nat) (arr:Array Value),M.m b=.blk g∧base≤g∧¬ M.F g∧M.w.heap[g]?=some (.cells arr t (0,0))∧l.length=arr.size∧∀ (i:Nat) (x:AV) (u:Value),l[i]?=some x→arr[i]?=some u→RA M x u
 vec:∀ b E size l,M.H b=some (.vec E size l)→∃ (v:Value) (n:Nat) (cs:List Value),M.m b=.row v∧l.length=n * size∧0 < size∧M.w.ownsRow base E size v n cs∧(∀ (i:Nat) (x:CV) (u:Value),l[i]?=some x→cs[i]?=some u→RC M.F M.w x u)∧∀ g,v.ownBlock=some g→¬ M.F g
 sep:∀ b b' g,b≠b'→M.H b≠none→M.H b'≠none→(M.m b).block=some g→(M.m b').block≠some g
 lt:∀ b,M.H b≠none→b < M.nx
 fresh:∀ b,M.nx≤b→∀ g,M.m b≠.blk g
 frz:∀ b,M.F b→b < M.w.heap.size
 obj:∀ b p,M.H b=some (.obj p)→∃ g,M.m b=.blk g∧M.fp b g∧p.holds M.F M.w g (M.fp b)∧(∀ k,M.fp b k→base≤k∧k < M.w.heap.size∧¬ M.F k)∧∀ b' k,b'≠b→M.fp b k→(M.H b'≠none→(M.m b').block≠some k)∧∀ p',M.H b'=some (.obj p')→¬ M.fp b' k
structure W0 where
 w:World
 F:Nat→Prop
structure Sim (B:Nat) (w0:W0) (st:St) (M:Wd) (a:Act):Prop where
 H:M.H=st.H
 nx:M.nx=st.nx
 n:a.tmps.size=st.n
 env:∀ i x,bf i st.env=some x→∃ v,a.tmps[i]?=some v∧RA M x v
 gl:∀ g xs,bf g st.gl=some xs→RA M (.eptr xs 0) (.pointer (some ⟨g,0,none⟩))
 heap:HeapOK M B
 below:Below B w0.w M.w
 base:B≤M.w.heap.size
 defs:a.defers=[]
 old:∀ b,M.F b→b < B→w0.F b
theorem Sim.ev {base:Nat} {w0:W0} {st:St} {M:Wd} {a:Act} (h:Sim base w0 st M a) {x:Operand} {y:AV} (hx:st.ev x=some y):RA M y (a.eval x):=by
 cases x with
 | tmp t =>
  obtain ⟨v,h1,h2⟩:=h.env t y hx
  simp only [Act.eval]
  rw [Array.getD_eq_getD_getElem?,h1];exact h2
 | const v=>simp only [St.ev,Option.some.injEq] at hx;subst hx;exact .c (.v v)
 | global g =>
  simp only [St.ev,Option.map_eq_some_iff] at hx
  obtain ⟨xs,h1,rfl⟩:=hx
  exact h.gl g xs h1
 | func f=>simp only [St.ev,Option.some.injEq] at hx;subst hx;exact .fn rfl (fun i x u h=>by simp at h)
theorem cu {i k:Nat} (h:Nat.beq i k=true):i=k:=Nat.eq_of_beq_eq_true h
theorem beq_false {i k:Nat} (h:Nat.beq i k=false):i≠k:=Nat.ne_of_beq_eq_false h
theorem ba {i k:Nat} (h:Nat.blt i k=true):i < k:=Nat.le_of_ble_eq_true h
theorem az {α:Type} (k i:Nat) (x:α) (l:List (Nat×α)):bf k ((i,x)::l)=if i=k then some x else bf k l:=by
 show (bif Nat.beq i k then some x else bf k l)=_
 cases hb:Nat.beq i k with
 | true=>rw [if_pos (cu hb)];rfl
 | false=>rw [if_neg (beq_false hb)];rfl
theorem Sim.put {base:Nat} {w0:W0} {st:St} {M:Wd} {a:Act} (h:Sim base w0 st M a) {d:Nat} (hd:Nat.blt d st.n=true) {x:AV} {u:Value} (hx:RA M x u):Sim base w0 (st.put d x) M (a.put (some d) u):=by
 have hd':d < a.tmps.size:=by rw [h.n];exact ba hd
 refine ⟨h.H,h.nx,by show (a.tmps.setIfInBounds d u).size=_;rw [Array.size_setIfInBounds];exact h.n,fun i y hy=>?_,h.gl,h.heap,h.below,h.base,by simpa [Act.put] using h.defs,h.old⟩
 simp only [St.put,az] at hy
 by_cases hi:d=i
 ·subst hi
  rw [if_pos rfl] at hy
  simp only [Option.some.injEq] at hy;subst hy
  exact ⟨u,by simp [Act.put,hd'],hx⟩
 ·rw [if_neg hi] at hy
  obtain ⟨v,h1,h2⟩:=h.env i y hy
  exact ⟨v,by simp [Act.put,Array.getElem?_setIfInBounds_ne hi,h1],h2⟩
def bN (base:Nat) (w0:W0) (M:Wd) (Q:Exit→St→Prop):Exit→Act→World→Prop :=
 fun e a' w'=>∃ M' st',M'.w=w'∧Sim base w0 st' M' a'∧Ext M M'∧Q e st'
theorem bN.ext {base:Nat} {w0:W0} {M M':Wd} {Q:Exit→St→Prop} (h:Ext M M') {e:Exit} {a:Act} {w:World} (hl:bN base w0 M' Q e a w):bN base w0 M Q e a w:=by
 obtain ⟨M'',st',h1,h2,h3,h4⟩:=hl
 exact ⟨M'',st',h1,h2,h.trans h3,h4⟩
section
variable {P:Program}
theorem upon_monoQ {o:Oper} {a:Act} {K K':Act→World→Prop} {Q Q':Exit→Act→World→Prop} (hk:∀ a w,K a w→K' a w) (hq:∀ e a w,Q e a w→Q' e a w) {r:Result Next} (h:o.upon P a K Q r):o.upon P a K' Q' r:=by
 cases r with
 | ok n w' =>
  cases n<;>simp only [Oper.upon] at h ⊢ <;>
   first
    | exact hk _ _ h
    | exact Calls.mono h (fun e w'' he=>by cases e<;>first|exact hk _ _ he|exact hq _ _ _ he|exact (he.elim fun a h=>h.elim fun w h=>⟨a,w,hq _ _ _ h⟩))
    | exact Rows.mono h (fun _ _ he=>hk _ _ he)
 | halt x w'=>cases x<;>simp only [Oper.upon] at h ⊢<;>exact hq _ _ _ h
theorem aM {ops:Array Oper} {Q Q':Exit→Act→World→Prop} (hq:∀ e a w,Q e a w→Q' e a w):∀ (l:List Oper) (a:Act) (w:World),wpList P ops Q l a w→wpList P ops Q' l a w
 | [],a,w,h=>hq _ _ _ h
 | o::l,a,w,h=>by
  unfold wpList at h ⊢
  split
  ·rename_i hw
   rw [if_pos hw] at h
   exact h.imp (upon_monoQ (fun a w=>aM hq l a w) hq) (fun ⟨h1,a,w,h2⟩=>⟨h1,a,w,hq _ _ _ h2⟩)
  ·rename_i hw
   rw [if_neg hw] at h
   exact aM hq l _ _ h
def aP (P:Program) (ops:Array Oper) (Q:Exit→St→Prop) (rest:List Oper) (st:St):Prop :=
 ∀ base w0 M a,Sim base w0 st M a→wpList P ops (bN base w0 M Q) rest a M.w
def gf (P:Program) (c:Code) (Q:Exit→St→Prop) (st:St):Prop :=
 ∀ base w0 M a,Sim base w0 st M a→c.wp P (bN base w0 M Q) a M.w
theorem wl_value {ops:Array Oper} {Q:Exit→Act→World→Prop} {o:Oper} {rest:List Oper} {a:Act} {w w':World} {u:Value} (hg:o.guard=none) (hr:(execOp a.eval o).run P w=.ok (.value u) w') (h:wpList P ops Q rest (a.put o.dst u) w'):wpList P ops Q (o::rest) a w :=
 wpList_plain hg fun K hK=>by unfold Oper.wp;rw [hr];exact hK _ _ h
theorem wl_skip {ops:Array Oper} {Q:Exit→Act→World→Prop} {o:Oper} {rest:List Oper} {a:Act} {w w':World} (hg:o.guard=none) (hr:(execOp a.eval o).run P w=.ok .skip w') (h:wpList P ops Q rest (a.put o.dst undef) w'):wpList P ops Q (o::rest) a w :=
 wpList_plain hg fun K hK=>by unfold Oper.wp;rw [hr];exact hK _ _ h
structure SimW (base:Nat) (st:St) (M:Wd):Prop where
 H:∀ b x,st.H b=some x→M.H b=some x
 gl:∀ g xs,bf g st.gl=some xs→RA M (.eptr xs 0) (.pointer (some ⟨g,0,none⟩))
 heap:HeapOK M base
structure SimO (base:Nat) (w0:W0) (st:St) (o:Oper) (M:Wd) (a:Act):Prop where
 sim:SimW base st M
 ops:∀ x∈o.op.operands,∀ y,st.ev x=some y→RA M y (a.eval x)
theorem SimO.ev {base:Nat} {w0:W0} {st:St} {o:Oper} {M:Wd} {a:Act} (h:SimO base w0 st o M a) {x:Operand} {y:AV} (hm:x∈o.op.operands) (hx:st.ev x=some y):RA M y (a.eval x):=h.ops x hm y hx
theorem SimO.H {base:Nat} {w0:W0} {st:St} {o:Oper} {M:Wd} {a:Act} (h:SimO base w0 st o M a):∀ b x,st.H b=some x→M.H b=some x:=h.sim.H
theorem Sim.toO {base:Nat} {w0:W0} {st:St} {M:Wd} {a:Act} (h:Sim base w0 st M a) (o:Oper):SimO base w0 st o M a:=⟨⟨fun b x hx=>by rw [h.H];exact hx,h.gl,h.heap⟩,fun _ _ _ hx=>h.ev hx⟩
def gx (P:Program) (o:Oper) (st:St) (y:AV):Prop :=
 ∀ base w0 M a,SimO base w0 st o M a→∀ (K:Act→World→Prop) (Q:Exit→Act→World→Prop),(∀ u M',Ext M M'→(∀ s,Sim base w0 s M a→Sim base w0 s M' a)→RA M' y u→K (a.put o.dst u) M'.w)→o.wp P a M.w K Q
class Walk (P:outParam Program) (X:List Oper→St→Prop):Prop where
 step:∀ {o:Oper} {rest:List Oper} {st:St} {d:Nat} {y:AV},o.guard=none→o.dst=some d→Nat.blt d st.n=true→gx P o st y→X rest (st.put d y)→X (o::rest) st
instance {ops:Array Oper} {Q:Exit→St→Prop}:Walk P (aP P ops Q) where
 step:=fun {o rest st d y} hg hdst hd hq h base w0 M a hs=>wpList_plain hg fun K hK=>hq base w0 M a (hs.toO o) K _ fun u M' hext hsim hu=>by
  refine hK _ _ ?_
  rw [hdst]
  exact aM (fun e a w=>bN.ext hext) _ _ _ (h base w0 M' _ ((hsim st hs).put hd hu))
theorem aY {X:List Oper→St→Prop} [W:Walk P X] {o:Oper} {rest:List Oper} {st:St} {d:Nat} {x:AV} (hg:o.guard=none) (hdst:o.dst=some d) (hd:Nat.blt d st.n=true)
  (hrun:∀ base w0 M a,SimO base w0 st o M a→∃ u,(execOp a.eval o).run P M.w=.ok (.value u) M.w∧RA M x u) (h:X rest (st.put d x)):X (o::rest) st:=by
 refine W.step hg hdst hd (fun base w0 M a hs K Q hK=>?_) h
 obtain ⟨u,hr,hx⟩:=hrun base w0 M a hs
 unfold Oper.wp
 rw [hr]
 exact hK u M (Ext.refl M) (fun _ h=>h) hx
theorem ao_nil {ops:Array Oper} {Q:Exit→St→Prop} {st:St} (h:Q .normal st):aP P ops Q [] st :=
 fun _ _ M _ hs=>⟨M,st,rfl,hs,Ext.refl M,h⟩
theorem aw_region {id:Nat} {l:List Oper} {Q:Exit→St→Prop} {st:St} (h:aP P l.toArray Q l st):gf P (.region id l.toArray false) Q st :=
 fun base w0 M a hs=>wp_region_lit (h base w0 M a hs)
def thn (K:St→Prop) (Q:Exit→St→Prop):Exit→St→Prop
 | .normal,st=>K st
 | e,st=>Q e st
theorem aw_seq {x y:Code} {Q:Exit→St→Prop} {st:St} (h:gf P x (thn (gf P y Q) Q) st):gf P (.seq x y) Q st:=by
 intro base w0 M a hs
 refine wp_seq (wp_mono (h base w0 M a hs) ?_)
 intro e a' w' ⟨M',st',h1,h2,h3,h4⟩
 cases e with
 | normal =>
  subst h1
  exact wp_mono (h4 base w0 M' a' h2) fun e a w=>bN.ext h3
 | _=>exact ⟨M',st',h1,h2,h3,h4⟩
theorem thn_normal {K:St→Prop} {Q:Exit→St→Prop} {st:St} (h:K st):thn K Q .normal st:=h
theorem thn_ret {K:St→Prop} {Q:Exit→St→Prop} {st:St} (h:Q .ret st):thn K Q .ret st:=h
theorem thn_exit {K:St→Prop} {Q:Exit→St→Prop} {st:St} {id:Nat} (h:Q (.exit id) st):thn K Q (.exit id) st:=h
theorem aw_skip {Q:Exit→St→Prop} {st:St} (h:Q .normal st):gf P .skip Q st:=fun _ _ M _ hs=>wp_skip ⟨M,st,rfl,hs,Ext.refl M,h⟩
theorem aw_exit {Q:Exit→St→Prop} {st:St} {id:Nat} (h:Q (.exit id) st):gf P (.exit id) Q st:=fun _ _ M _ hs=>wp_exit ⟨M,st,rfl,hs,Ext.refl M,h⟩
theorem aw_ret {Q:Exit→St→Prop} {st:St} (h:Q .ret st):gf P .ret Q st:=fun _ _ M _ hs=>wp_ret ⟨M,st,rfl,hs,Ext.refl M,h⟩
theorem RA.bool {M:Wd} {x:Value} {u:Value} (h:RA M (.c (.v x)) u):u=x:=by
 cases h with
 | c h=>cases h;rfl
theorem aa {c:Operand} {x y:Code} {Q:Exit→St→Prop} {st:St} {b:Bool} (hc:st.ev c=some (.c (.v (.bool b)))) (ht:b=true→gf P x Q st) (hf:b=false→gf P y Q st):gf P (.cond c x y) Q st:=by
 intro base w0 M a hs
 have he:=(hs.ev hc).bool
 refine wp_cond he ?_
 cases b with
 | true=>exact ht rfl base w0 M a hs
 | false=>exact hf rfl base w0 M a hs
def inb (id:Nat) (Q:Exit→St→Prop):Exit→St→Prop
 | .exit i,st=>if i=id then Q .normal st else Q (.exit i) st
 | e,st=>Q e st
theorem inb_normal {id:Nat} {Q:Exit→St→Prop} {st:St} (h:Q .normal st):inb id Q .normal st:=h
theorem inb_ret {id:Nat} {Q:Exit→St→Prop} {st:St} (h:Q .ret st):inb id Q .ret st:=h
theorem inb_exit {id:Nat} {Q:Exit→St→Prop} {st:St} (h:Q .normal st):inb id Q (.exit id) st:=by unfold inb;simpa using h
theorem inb_other {id i:Nat} {Q:Exit→St→Prop} {st:St} (hne:Nat.beq i id=false) (h:Q (.exit i) st):inb id Q (.exit i) st:=by show (if i=id then Q .normal st else Q (.exit i) st);rw [if_neg (beq_false hne)];exact h
theorem aw_block {id:Nat} {c:Code} {Q:Exit→St→Prop} {st:St} (h:gf P c (inb id Q) st):gf P (.block id c) Q st:=by
 intro base w0 M a hs
 refine wp_block (wp_mono (h base w0 M a hs) ?_)
 intro e a' w' ⟨M',st',h1,h2,h3,h4⟩
 cases e with
 | exit i =>
  simp only [inb] at h4
  simp only [Exit.inBlock]
  split
  ·rename_i hi;rw [if_pos hi] at h4;exact ⟨M',st',h1,h2,h3,h4⟩
  ·rename_i hi;rw [if_neg hi] at h4;exact ⟨M',st',h1,h2,h3,h4⟩
 | _=>exact ⟨M',st',h1,h2,h3,h4⟩
theorem aw_mono {c:Code} {Q Q':Exit→St→Prop} {st:St} (h:gf P c Q st) (hq:∀ e st,Q e st→Q' e st):gf P c Q' st :=
 fun base w0 M a hs=>wp_mono (h base w0 M a hs) fun _ _ _ ⟨M',st',h1,h2,h3,h4⟩=>⟨M',st',h1,h2,h3,hq _ _ h4⟩
def AV.lt (n:Nat):AV→Bool
 | .c _=>true
 | .agg xs=>ltL n xs
 | .tup xs=>ltL n xs
 | .ptr b _=>Nat.blt b n
 | .vec b _=>Nat.blt b n
 | .vptr b _ _=>Nat.blt b n
 | .eptr _ _=>true
 | .fn _ xs=>ltL n xs
 | .ghost b _ _=>Nat.blt b n
 | .ref b _=>Nat.blt b n
 where ltL (n:Nat):List AV→Bool
 | []=>true
 | x::l=>AV.lt n x && ltL n l
theorem fJ {n:Nat}:∀ {xs:List AV},AV.lt.ltL n xs=true→∀ (i:Nat) (x:AV),xs[i]?=some x→AV.lt n x=true
 | [],_,i,x,h=>by simp at h
 | y::l,hl,0,x,h=>by
  simp only [AV.lt.ltL,Bool.and_eq_true] at hl
  simp only [List.getElem?_cons_zero,Option.some.injEq] at h;subst h;exact hl.1
 | y::l,hl,i+1,x,h=>by
  simp only [AV.lt.ltL,Bool.and_eq_true] at hl
  exact fJ hl.2 i x (by simpa using h)
def EnvW (s:St) (nx:Nat):List (Nat×AV)→Prop
 | []=>True
 | (i,x)::l=>bf i s.env=some x∧AV.lt nx x=true∧EnvW s nx l
def abLt (nx:Nat):AB→Bool
 | .cells _ l=>AV.lt.ltL nx l
 | .vec _ _ _=>true
 | .obj _=>true
def HeapW (s:St) (nx:Nat):List (Nat×Option AB)→Prop
 | []=>True
 | (i,some x)::l=>s.H i=some x∧Nat.blt i nx=true∧abLt nx x=true∧HeapW s nx l
 | (_,none)::_=>False
structure Weak (s s':St):Prop where
 n:s'.n=s.n
 gl:s'.gl=s.gl
 nx:s'.nx≤s.nx
 env:∀ i x,bf i s'.env=some x→bf i s.env=some x∧AV.lt s'.nx x=true
 heap:∀ b x,s'.H b=some x→s.H b=some x∧b < s'.nx∧abLt s'.nx x=true
theorem EnvW.get {s:St} {nx:Nat}:∀ {l:List (Nat×AV)},EnvW s nx l→∀ i x,bf i l=some x→bf i s.env=some x∧AV.lt nx x=true
 | [],_,i,x,h=>by simp [bf] at h
 | (j,y)::l,⟨h1,h2,h3⟩,i,x,h=>by
  rw [az] at h
  split at h
  ·rename_i hj;subst hj;simp only [Option.some.injEq] at h;subst h;exact ⟨h1,h2⟩
  ·exact EnvW.get h3 i x h
theorem HeapW.get {s:St} {nx:Nat}:∀ {l:List (Nat×Option AB)},HeapW s nx l→∀ i x,bf i l=some (some x)→s.H i=some x∧i < nx∧abLt nx x=true
 | [],_,i,x,h=>by simp [bf] at h
 | (j,some y)::l,⟨h1,h0,h2,h3⟩,i,x,h=>by
  rw [az] at h
  split at h
  ·rename_i hj;subst hj;simp only [Option.some.injEq] at h;subst h;exact ⟨h1,ba h0,h2⟩
  ·exact HeapW.get h3 i x h
theorem St.H_some {s:St} {b:Nat} {x:AB} (h:s.H b=some x):bf b s.heap=some (some x):=by
 unfold St.H at h
 split at h
 ·rename_i y hy;simp only [Option.some.injEq] at h;subst h;exact hy
 ·cases h
def Wd.cut (M:Wd) (s:St):Wd:={ m:=fun b=>if b < s.nx then M.m b else .row undef,H:=s.H,nx:=s.nx,F:=M.F,w:=M.w,fp:=M.fp }
theorem RA.cut {M:Wd} {s s':St} (hH:M.H=s.H) (hw:Weak s s') {x:AV} {u:Value} (h:RA M x u):AV.lt s'.nx x=true→RA (M.cut s') x u:=by
 have hv:∀ b E size l,s'.H b=some (.vec E size l)→M.H b=some (.vec E size l):=fun b E size l hl=>by
  rw [hH];exact (hw.heap b _ hl).1
 induction h with
 | c h=>exact fun _=>.c h
 | agg hl _ ih=>exact fun hlt=>.agg hl (fun i x u h1 h2=>ih i x u h1 h2 (fJ hlt i x h1))
 | tup hl _ ih=>exact fun hlt=>.tup hl (fun i x u h1 h2=>ih i x u h1 h2 (fJ hlt i x h1))
 | fn hl _ ih=>exact fun hlt=>.fn hl (fun i x u h1 h2=>ih i x u h1 h2 (fJ hlt i x h1))
 | ptr hb =>
  intro hlt
  have hlt:=ba hlt
  exact .ptr (by simp only [Wd.cut];rw [if_pos hlt];exact hb)
 | vec hb ho h =>
  intro hlt
  have hlt:=ba hlt
  refine .vec hlt ho (fun E size l hl=>?_)
  obtain ⟨h1,h2⟩:=h E size l (hv _ _ _ _ hl)
  exact ⟨h1,fun hh=>by simp only [Wd.cut];rw [if_pos hlt];exact h2 hh⟩
 | vptr hb ho h =>
  intro hlt
  have hlt:=ba hlt
  refine .vptr hlt ho (fun E size l hl=>?_)
  obtain ⟨h1,h2⟩:=h E size l (hv _ _ _ _ hl)
  exact ⟨h1,fun hh=>by simp only [Wd.cut];rw [if_pos hlt];exact h2 hh⟩
 | eptr cs hF hcell hr=>exact fun _=>.eptr cs hF hcell hr
 | ghost hb ho h =>
  intro hlt
  have hlt:=ba hlt
  refine .ghost hlt ho (fun E size l hl=>?_)
  obtain ⟨h1,h2⟩:=h E size l (hv _ _ _ _ hl)
  exact ⟨h1,fun hh=>by simp only [Wd.cut];rw [if_pos hlt];exact h2 hh⟩
 | ref hb ho =>
  intro hlt
  have hlt:=ba hlt
  exact .ref (by simp only [Wd.cut];rw [if_pos hlt];exact hb) ho
theorem Sim.weak {base:Nat} {w0:W0} {s s':St} {M:Wd} {a:Act} (h:Sim base w0 s M a) (hw:Weak s s'):Sim base w0 s' (M.cut s') a:=by
 have hget:∀ b x,s'.H b=some x→M.H b=some x∧b < s'.nx∧abLt s'.nx x=true:=fun b x hx=>by
  rw [h.H];exact hw.heap b x hx
 have hne:∀ b,s'.H b≠none→M.H b≠none∧b < s'.nx:=fun b hb=>by
  cases hx:s'.H b with
  | none=>exact absurd hx hb
  | some x=>exact ⟨by rw [(hget b x hx).1];simp,(hget b x hx).2.1⟩
 refine ⟨rfl,rfl,by rw [h.n,hw.n],fun i x hx=>?_,fun g xs hg=>?_,⟨?_,?_,?_,?_,?_,h.heap.frz,?_⟩,h.below,h.base,h.defs,h.old⟩
 ·obtain ⟨h1,h2⟩:=hw.env i x hx
  obtain ⟨v,h3,h4⟩:=h.env i x h1
  exact ⟨v,h3,h4.cut h.H hw h2⟩
 ·rw [hw.gl] at hg
  exact (h.gl g xs hg).cut h.H hw rfl
 ·intro b t l hl
  obtain ⟨h1,h2,h3⟩:=hget b _ hl
  obtain ⟨g,arr,e1,e2,e3,e4,e5,e6⟩:=h.heap.cells b t l h1
  exact ⟨g,arr,by simp only [Wd.cut];rw [if_pos h2];exact e1,e2,e3,e4,e5,fun i x u hx hu=>(e6 i x u hx hu).cut h.H hw (fJ h3 i x hx)⟩
 ·intro b E size l hl
  obtain ⟨h1,h2,h3⟩:=hget b _ hl
  obtain ⟨v,n,cs,e1,e2⟩:=h.heap.vec b E size l h1
  exact ⟨v,n,cs,by simp only [Wd.cut];rw [if_pos h2];exact e1,e2⟩
 ·intro b b' g hbb hb hb'
  obtain ⟨h1,h2⟩:=hne b hb
  obtain ⟨h1',h2'⟩:=hne b' hb'
  simp only [Wd.cut]
  rw [if_pos h2,if_pos h2']
  exact h.heap.sep b b' g hbb h1 h1'
 ·exact fun b hb=>(hne b hb).2
 ·intro b hb g
  simp only [Wd.cut] at hb ⊢
  rw [if_neg (by omega)]
  simp
 ·intro b p hp
  obtain ⟨h1,h2,_⟩:=hget b _ hp
  obtain ⟨g,e1,e2,e3,e4,e5⟩:=h.heap.obj b p h1
  refine ⟨g,by simp only [Wd.cut];rw [if_pos h2];exact e1,e2,e3,e4,fun b' k hbb hk=>⟨fun hb'=>?_,fun p' hp'=>(e5 b' k hbb hk).2 p' (hget b' _ hp').1⟩⟩
  obtain ⟨h3,h4⟩:=hne b' hb'
  simp only [Wd.cut]
  rw [if_pos h4]
  exact (e5 b' k hbb hk).1 h3
theorem Ext.cut {M0 M:Wd} {s s':St} (h:Ext M0 M) (hf:∀ b,M0.nx≤b→∀ g,M0.m b≠.blk g) (hH:M.H=s.H) (hw:Weak s s') (hn:M0.nx≤s'.nx):Ext M0 (M.cut s') where
 m:=fun b g hb=>by
  have hlt:b < s'.nx:=by
   rcases Nat.lt_or_ge b M0.nx with hc|hc
   ·omega
   ·exact absurd hb (hf b hc g)
  simp only [Wd.cut];rw [if_pos hlt];exact h.m b g hb
 v:=fun b E size l' hb hl=>by
  have h1:M.H b=some (.vec E size l'):=by rw [hH];exact (hw.heap b _ hl).1
  obtain ⟨l,e1,e2,e3⟩:=h.v b E size l' hb h1
  exact ⟨l,e1,e2,fun hh=>by simp only [Wd.cut];rw [if_pos (by omega)];exact e3 hh⟩
 nx:=hn
 F:=h.F
theorem least {J:Nat→Prop} (n:Nat) (h:J n):∃ m,J m∧∀ k,J k→m≤k:=by
 induction n using Nat.strongRecOn with
 | _ n ih =>
  by_cases hc:∃ k,k < n∧J k
  ·obtain ⟨k,h1,h2⟩:=hc;exact ih k h1 h2
  ·exact ⟨n,h,fun k hk=>Nat.le_of_not_lt fun hlt=>hc ⟨k,hlt,hk⟩⟩
theorem aw_loop (I:Nat→St→Prop) {c:Code} {Q:Exit→St→Prop} {st:St} (n0:Nat) (h0:∃ s,I n0 s∧Weak st s∧st.nx≤s.nx)
  (round:∀ n s,I n s→gf P c (thn (fun st'=>∃ n' s',n' < n∧I n' s'∧Weak st' s'∧s.nx≤s'.nx) Q) s):gf P (.loop c) Q st:=by
 intro base w0 M a hs
 let J:Act→World→Nat→Prop:=fun a' w' n=>∃ M' s,I n s∧M'.w=w'∧Sim base w0 s M' a'∧Ext M M'
 have hμ:∃ μ:Act→World→Nat,∀ a' w' n,J a' w' n→J a' w' (μ a' w')∧μ a' w'≤n:=by
  refine ⟨fun a' w'=>@dite _ (∃ n,J a' w' n) (Classical.propDecidable _) (fun h=>Classical.choose (least (J:=J a' w') _ (Classical.choose_spec h))) (fun _=>0),fun a' w' n hn=>?_⟩
  have hex:∃ n,J a' w' n:=⟨n,hn⟩
  simp only [dif_pos hex]
  have hsp:=Classical.choose_spec (least (J:=J a' w') _ (Classical.choose_spec hex))
  exact ⟨hsp.1,hsp.2 n hn⟩
 obtain ⟨μ,hμ⟩:=hμ
 refine wp_loop (fun a' w'=>∃ n,J a' w' n) μ ?_ ?_
 ·obtain ⟨s,h1,h2,h3⟩:=h0
  exact ⟨n0,M.cut s,s,h1,rfl,hs.weak h2,(Ext.refl M).cut hs.heap.fresh hs.H h2 (by rw [hs.nx];exact h3)⟩
 ·rintro a' w' ⟨n,hn⟩
  obtain ⟨⟨M',s,h1,h2,h3,h4⟩,_⟩:=hμ a' w' n hn
  subst h2
  refine wp_mono (round _ s h1 base w0 M' a' h3) ?_
  intro e a'' w'' ⟨M'',st',g1,g2,g3,g4⟩
  cases e with
  | normal =>
   obtain ⟨n',s',j1,j2,j3,j4⟩:=g4
   have hJ:J a'' w'' n':=⟨M''.cut s',s',j2,g1,g2.weak j3,h4.trans (g3.cut h3.heap.fresh g2.H j3 (by rw [h3.nx];exact j4))⟩
   exact ⟨⟨n',hJ⟩,Nat.lt_of_le_of_lt (hμ a'' w'' n' hJ).2 j1⟩
  | _=>exact ⟨M'',st',g1,g2,h4.trans g3,g4⟩
end
end Go.Proofs.YtdndfncpglfdeaaGreatDoor.Ev

namespace Go.Proofs.YtdndfncpglfdeaaGreatDoor.Ev
set_option linter.unusedVariables false
set_option linter.unusedSimpArgs false
open Go.RowKit
def aQ (n:Int):Prop:=-9223372036854775808≤n∧n≤9223372036854775807
theorem wrap_fits {n:Int} (h:aQ n):IntKind.i64.wrap n=n:=IntWalk.i64_in _ h
section
variable {P:Program} {ops:Array Oper} {Q:Exit→St→Prop} {X:List Oper→St→Prop} {rest:List Oper} {st:St} {d:Nat} {ty:TypeId} {pos:String} {af:Array Edge}
theorem ao_move [W:Walk P X] {x:Operand} {y:AV} (hx:st.ev x=some y) (hd:Nat.blt d st.n=true) (h:X rest (st.put d y)):X (⟨some d,.move x,ty,pos,af,none⟩::rest) st :=
 aY rfl rfl hd (fun _ _ _ _ hs=>⟨_,rfl,hs.ev (by simp [Op.operands,Call.operands]) hx⟩) h
theorem ao_assign [W:Walk P X] {x:Operand} {y:AV} (hx:st.ev x=some y) (hd:Nat.blt d st.n=true) (h:X rest (st.put d y)):X (⟨some d,.assign x,ty,pos,af,none⟩::rest) st :=
 aY rfl rfl hd (fun _ _ _ _ hs=>⟨_,rfl,hs.ev (by simp [Op.operands,Call.operands]) hx⟩) h
theorem ao_pick_t [W:Walk P X] {c x y:Operand} {z:AV} (hc:st.ev c=some (.c (.v (.bool true)))) (hx:st.ev x=some z) (hd:Nat.blt d st.n=true) (h:X rest (st.put d z)):X (⟨some d,.pick c x y,ty,pos,af,none⟩::rest) st :=
 aY rfl rfl hd (fun _ _ _ a hs=>⟨a.eval x,by simp only [execOp,(hs.ev (by simp [Op.operands,Call.operands]) hc).bool];rfl,hs.ev (by simp [Op.operands,Call.operands]) hx⟩) h
theorem ao_pick_f [W:Walk P X] {c x y:Operand} {z:AV} (hc:st.ev c=some (.c (.v (.bool false)))) (hy:st.ev y=some z) (hd:Nat.blt d st.n=true) (h:X rest (st.put d z)):X (⟨some d,.pick c x y,ty,pos,af,none⟩::rest) st :=
 aY rfl rfl hd (fun _ _ _ a hs=>⟨a.eval y,by simp only [execOp,(hs.ev (by simp [Op.operands,Call.operands]) hc).bool];rfl,hs.ev (by simp [Op.operands,Call.operands]) hy⟩) h
theorem ao_not [W:Walk P X] {x:Operand} {t:TypeId} {b:Bool} (hx:st.ev x=some (.c (.v (.bool b)))) (hd:Nat.blt d st.n=true) (h:X rest (st.put d (.c (.v (.bool !b))))):X (⟨some d,.unOp .not t x,ty,pos,af,none⟩::rest) st :=
 aY rfl rfl hd (fun _ _ _ a hs=>⟨.bool !b,by simp only [execOp,(hs.ev (by simp [Op.operands,Call.operands]) hx).bool];rfl,.c (.v _)⟩) h
theorem ao_extract [W:Walk P X] {x:Operand} {i:Nat} {xs:List AV} {y:AV} (hx:st.ev x=some (.tup xs)) (hi:xs[i]?=some y) (hd:Nat.blt d st.n=true) (h:X rest (st.put d y)):X (⟨some d,.extract x i,ty,pos,af,none⟩::rest) st:=by
 refine aY rfl rfl hd (fun _ _ M a hs=>?_) h
 have hv:=hs.ev (by simp [Op.operands,Call.operands]) hx
 generalize he:a.eval x=u at hv
 cases hv with
 | tup hl hh =>
  rename_i vs
  have hlt:i < vs.size:=by rw [← hl];exact (List.getElem?_eq_some_iff.1 hi).1
  refine ⟨vs[i],?_,hh i y _ hi (by simp [hlt])⟩
  simp only [execOp,he,Instr.extract]
  simp [hlt]
theorem ao_lss [W:Walk P X] {x y:Operand} {t t2:TypeId} {k:IntKind} {a b:Int} (hx:st.ev x=some (.c (.v (.int k a)))) (hy:st.ev y=some (.c (.v (.int k b)))) (hd:Nat.blt d st.n=true) (h:X rest (st.put d (.c (.v (.bool (decide (a < b))))))):X (⟨some d,.binOp .lss t x y t2,ty,pos,af,none⟩::rest) st:=by
 refine aY rfl rfl hd (fun _ _ M e hs=>⟨.bool (decide (a < b)),?_,.c (.v _)⟩) h
 simp only [execOp,(hs.ev (by simp [Op.operands,Call.operands]) hx).bool,(hs.ev (by simp [Op.operands,Call.operands]) hy).bool]
 simp [go_sem]
theorem ao_leq [W:Walk P X] {x y:Operand} {t t2:TypeId} {k:IntKind} {a b:Int} (hx:st.ev x=some (.c (.v (.int k a)))) (hy:st.ev y=some (.c (.v (.int k b)))) (hd:Nat.blt d st.n=true) (h:X rest (st.put d (.c (.v (.bool (decide (a≤b))))))):X (⟨some d,.binOp .leq t x y t2,ty,pos,af,none⟩::rest) st:=by
 refine aY rfl rfl hd (fun _ _ M e hs=>⟨.bool (decide (a≤b)),?_,.c (.v _)⟩) h
 simp only [execOp,(hs.ev (by simp [Op.operands,Call.operands]) hx).bool,(hs.ev (by simp [Op.operands,Call.operands]) hy).bool]
 simp [go_sem]
theorem ao_gtr [W:Walk P X] {x y:Operand} {t t2:TypeId} {k:IntKind} {a b:Int} (hx:st.ev x=some (.c (.v (.int k a)))) (hy:st.ev y=some (.c (.v (.int k b)))) (hd:Nat.blt d st.n=true) (h:X rest (st.put d (.c (.v (.bool (decide (a > b))))))):X (⟨some d,.binOp .gtr t x y t2,ty,pos,af,none⟩::rest) st:=by
 refine aY rfl rfl hd (fun _ _ M e hs=>⟨.bool (decide (a > b)),?_,.c (.v _)⟩) h
 simp only [execOp,(hs.ev (by simp [Op.operands,Call.operands]) hx).bool,(hs.ev (by simp [Op.operands,Call.operands]) hy).bool]
 simp [go_sem]
theorem ao_geq [W:Walk P X] {x y:Operand} {t t2:TypeId} {k:IntKind} {a b:Int} (hx:st.ev x=some (.c (.v (.int k a)))) (hy:st.ev y=some (.c (.v (.int k b)))) (hd:Nat.blt d st.n=true) (h:X rest (st.put d (.c (.v (.bool (decide (a≥b))))))):X (⟨some d,.binOp .geq t x y t2,ty,pos,af,none⟩::rest) st:=by
 refine aY rfl rfl hd (fun _ _ M e hs=>⟨.bool (decide (a≥b)),?_,.c (.v _)⟩) h
 simp only [execOp,(hs.ev (by simp [Op.operands,Call.operands]) hx).bool,(hs.ev (by simp [Op.operands,Call.operands]) hy).bool]
 simp [go_sem]
theorem ao_eql [W:Walk P X] {x y:Operand} {t t2:TypeId} {k:IntKind} {a b:Int} (hx:st.ev x=some (.c (.v (.int k a)))) (hy:st.ev y=some (.c (.v (.int k b)))) (hd:Nat.blt d st.n=true) (h:X rest (st.put d (.c (.v (.bool (decide (a=b))))))):X (⟨some d,.binOp .eql t x y t2,ty,pos,af,none⟩::rest) st:=by
 refine aY rfl rfl hd (fun _ _ M e hs=>⟨.bool (decide (a=b)),?_,.c (.v _)⟩) h
 simp only [execOp,(hs.ev (by simp [Op.operands,Call.operands]) hx).bool,(hs.ev (by simp [Op.operands,Call.operands]) hy).bool]
 simp [go_sem];rfl
theorem ao_neq [W:Walk P X] {x y:Operand} {t t2:TypeId} {k:IntKind} {a b:Int} (hx:st.ev x=some (.c (.v (.int k a)))) (hy:st.ev y=some (.c (.v (.int k b)))) (hd:Nat.blt d st.n=true) (h:X rest (st.put d (.c (.v (.bool (!decide (a=b))))))):X (⟨some d,.binOp .neq t x y t2,ty,pos,af,none⟩::rest) st:=by
 refine aY rfl rfl hd (fun _ _ M e hs=>⟨.bool (!decide (a=b)),?_,.c (.v _)⟩) h
 simp only [execOp,(hs.ev (by simp [Op.operands,Call.operands]) hx).bool,(hs.ev (by simp [Op.operands,Call.operands]) hy).bool]
 simp [go_sem];rfl
theorem ao_add [W:Walk P X] {x y:Operand} {t t2:TypeId} {a b:Int} (hx:st.ev x=some (.c (.v (.int .i64 a)))) (hy:st.ev y=some (.c (.v (.int .i64 b)))) (hf:aQ (a+b)) (hd:Nat.blt d st.n=true) (h:X rest (st.put d (.c (.v (.int .i64 (a+b)))))):X (⟨some d,.binOp .add t x y t2,ty,pos,af,none⟩::rest) st:=by
 refine aY rfl rfl hd (fun _ _ M e hs=>⟨.int .i64 (a+b),?_,.c (.v _)⟩) h
 simp only [execOp,(hs.ev (by simp [Op.operands,Call.operands]) hx).bool,(hs.ev (by simp [Op.operands,Call.operands]) hy).bool]
 show Result.ok (Next.value (Value.int .i64 (IntKind.i64.wrap (a+b)))) _=_
 rw [wrap_fits hf]
theorem ao_sub [W:Walk P X] {x y:Operand} {t t2:TypeId} {a b:Int} (hx:st.ev x=some (.c (.v (.int .i64 a)))) (hy:st.ev y=some (.c (.v (.int .i64 b)))) (hf:aQ (a - b)) (hd:Nat.blt d st.n=true) (h:X rest (st.put d (.c (.v (.int .i64 (a - b)))))):X (⟨some d,.binOp .sub t x y t2,ty,pos,af,none⟩::rest) st:=by
 refine aY rfl rfl hd (fun _ _ M e hs=>⟨.int .i64 (a - b),?_,.c (.v _)⟩) h
 simp only [execOp,(hs.ev (by simp [Op.operands,Call.operands]) hx).bool,(hs.ev (by simp [Op.operands,Call.operands]) hy).bool]
 show Result.ok (Next.value (Value.int .i64 (IntKind.i64.wrap (a - b)))) _=_
 rw [wrap_fits hf]
theorem ao_sub_w [W:Walk P X] {x y:Operand} {t t2:TypeId} {k:IntKind} {a b:Int} (hx:st.ev x=some (.c (.v (.int k a)))) (hy:st.ev y=some (.c (.v (.int k b)))) (hd:Nat.blt d st.n=true) (h:X rest (st.put d (.c (.v (.int k (k.wrap (a - b))))))):X (⟨some d,.binOp .sub t x y t2,ty,pos,af,none⟩::rest) st:=by
 refine aY rfl rfl hd (fun _ _ M e hs=>⟨.int k (k.wrap (a - b)),?_,.c (.v _)⟩) h
 simp only [execOp,(hs.ev (by simp [Op.operands,Call.operands]) hx).bool,(hs.ev (by simp [Op.operands,Call.operands]) hy).bool]
 simp [go_sem]
theorem ao_mul [W:Walk P X] {x y:Operand} {t t2:TypeId} {a b:Int} (hx:st.ev x=some (.c (.v (.int .i64 a)))) (hy:st.ev y=some (.c (.v (.int .i64 b)))) (hf:aQ (a * b)) (hd:Nat.blt d st.n=true) (h:X rest (st.put d (.c (.v (.int .i64 (a * b)))))):X (⟨some d,.binOp .mul t x y t2,ty,pos,af,none⟩::rest) st:=by
 refine aY rfl rfl hd (fun _ _ M e hs=>⟨.int .i64 (a * b),?_,.c (.v _)⟩) h
 simp only [execOp,(hs.ev (by simp [Op.operands,Call.operands]) hx).bool,(hs.ev (by simp [Op.operands,Call.operands]) hy).bool]
 show Result.ok (Next.value (Value.int .i64 (IntKind.i64.wrap (a * b)))) _=_
 rw [wrap_fits hf]
theorem ao_quo [W:Walk P X] {x y:Operand} {t t2:TypeId} {a b:Int} (hx:st.ev x=some (.c (.v (.int .i64 a)))) (hy:st.ev y=some (.c (.v (.int .i64 b)))) (h0:b≠0) (hf:aQ (a.tdiv b)) (hd:Nat.blt d st.n=true) (h:X rest (st.put d (.c (.v (.int .i64 (a.tdiv b)))))):X (⟨some d,.binOp .quo t x y t2,ty,pos,af,none⟩::rest) st:=by
 refine aY rfl rfl hd (fun _ _ M e hs=>⟨.int .i64 (a.tdiv b),?_,.c (.v _)⟩) h
 simp only [execOp,(hs.ev (by simp [Op.operands,Call.operands]) hx).bool,(hs.ev (by simp [Op.operands,Call.operands]) hy).bool]
 simp only [go_sem]
 simp [binOp,Op.intDiv,h0,wrap_fits hf]
theorem ao_rem [W:Walk P X] {x y:Operand} {t t2:TypeId} {a b:Int} (hx:st.ev x=some (.c (.v (.int .i64 a)))) (hy:st.ev y=some (.c (.v (.int .i64 b)))) (h0:b≠0) (hd:Nat.blt d st.n=true) (h:X rest (st.put d (.c (.v (.int .i64 (a.tmod b)))))):X (⟨some d,.binOp .rem t x y t2,ty,pos,af,none⟩::rest) st:=by
 refine aY rfl rfl hd (fun _ _ M e hs=>⟨.int .i64 (a.tmod b),?_,.c (.v _)⟩) h
 simp only [execOp,(hs.ev (by simp [Op.operands,Call.operands]) hx).bool,(hs.ev (by simp [Op.operands,Call.operands]) hy).bool]
 simp only [go_sem]
 simp [binOp,Op.intDiv,h0]
theorem ao_max [W:Walk P X] {x y:Operand} {ts:Array TypeId} {k:IntKind} {a b:Int} (hx:st.ev x=some (.c (.v (.int k a)))) (hy:st.ev y=some (.c (.v (.int k b)))) (hd:Nat.blt d st.n=true) (h:X rest (st.put d (.c (.v (.int k (max a b)))))):X (⟨some d,.call ⟨.builtin .max,#[x,y],ts⟩,ty,pos,af,none⟩::rest) st:=by
 refine aY rfl rfl hd (fun _ _ M e hs=>⟨.int k (max a b),?_,.c (.v _)⟩) h
 simp only [execOp,resolve,List.map_toArray,List.map_cons,List.map_nil,(hs.ev (by simp [Op.operands,Call.operands]) hx).bool,(hs.ev (by simp [Op.operands,Call.operands]) hy).bool]
 have:(if b > a then b else a)=max a b:=by split<;>omega
 simp [invoke,builtin,go_sem,this]
theorem ao_min [W:Walk P X] {x y:Operand} {ts:Array TypeId} {k:IntKind} {a b:Int} (hx:st.ev x=some (.c (.v (.int k a)))) (hy:st.ev y=some (.c (.v (.int k b)))) (hd:Nat.blt d st.n=true) (h:X rest (st.put d (.c (.v (.int k (min a b)))))):X (⟨some d,.call ⟨.builtin .min,#[x,y],ts⟩,ty,pos,af,none⟩::rest) st:=by
 refine aY rfl rfl hd (fun _ _ M e hs=>⟨.int k (min a b),?_,.c (.v _)⟩) h
 simp only [execOp,resolve,List.map_toArray,List.map_cons,List.map_nil,(hs.ev (by simp [Op.operands,Call.operands]) hx).bool,(hs.ev (by simp [Op.operands,Call.operands]) hy).bool]
 have:(if b < a then b else a)=min a b:=by split<;>omega
 simp [invoke,builtin,go_sem,this]
theorem ao_guard {dst:Option Tmp} {op:Op} {j t:Nat} {want b:Bool} (hj:(ops[j]?).bind (·.dst)=some t) (hb:bf t st.env=some (.c (.v (.bool b)))) (hdst:dst=some d) (hd:Nat.blt d st.n=true)
  (h:b=want→aP P ops Q (⟨dst,op,ty,pos,af,none⟩::rest) (st.put t (.c (.v (.bool want))))) (h':b=!want→aP P ops Q rest ((st.put t (.c (.v (.bool !want)))).put d (.c (.v undef)))):aP P ops Q (⟨dst,op,ty,pos,af,some (j,want)⟩::rest) st:=by
 intro base w0 M a hs
 obtain ⟨v,h2,h3⟩:=hs.env t _ hb
 have h4:=h3.bool
 subst h4
 have key:∀ b',b=b'→Sim base w0 (st.put t (.c (.v (.bool b')))) M a:=fun b' hbb=>by
  subst hbb
  refine ⟨hs.H,hs.nx,hs.n,fun i y hy=>?_,hs.gl,hs.heap,hs.below,hs.base,hs.defs,hs.old⟩
  simp only [St.put,az] at hy
  split at hy
  ·rename_i hi;subst hi;simp only [Option.some.injEq] at hy;subst hy;exact ⟨_,h2,.c (.v _)⟩
  ·exact hs.env i y hy
 have hy:yielded ops a.tmps j=some b:=by unfold yielded;rw [hj];simp [h2]
 by_cases hw:b=want
 ·have h1:=h hw base w0 M a (key _ hw)
  subst hw
  unfold wpList at h1 ⊢
  rw [if_pos (by simp [Region.wanted])] at h1
  rw [if_pos (by simp [Region.wanted,hy])]
  exact h1
 ·have hw':b=!want:=by cases b<;>cases want<;>simp_all
  have h1:=h' hw' base w0 M _ ((key _ hw').put hd (.c (.v undef)))
  unfold wpList
  rw [if_neg (by simp [Region.wanted,hy];exact hw)]
  show wpList _ _ _ _ (a.put dst undef) _
  rw [hdst]
  exact h1
theorem ao_guard_none {dst:Option Tmp} {op:Op} {j t:Nat} {want:Bool} (hj:(ops[j]?).bind (·.dst)=some t) (hb:bf t st.env=some (.c (.v undef))) (hdst:dst=some d) (hd:Nat.blt d st.n=true) (h:aP P ops Q rest (st.put d (.c (.v undef)))):aP P ops Q (⟨dst,op,ty,pos,af,some (j,want)⟩::rest) st:=by
 intro base w0 M a hs
 have h1:=h base w0 M _ (hs.put hd (.c (.v undef)))
 obtain ⟨v,h2,h3⟩:=hs.env t _ hb
 have h4:=h3.bool
 subst h4
 have hy:yielded ops a.tmps j=none:=by unfold yielded;rw [hj];simp [h2,undef]
 unfold wpList
 rw [if_neg (by simp [Region.wanted,hy])]
 show wpList _ _ _ _ (a.put dst undef) _
 rw [hdst]
 exact h1
end
end Go.Proofs.YtdndfncpglfdeaaGreatDoor.Ev

namespace Go.Proofs.YtdndfncpglfdeaaGreatDoor.Ev
set_option linter.unusedVariables false
set_option linter.unusedSimpArgs false
open Go.RowKit
def fieldOffB (P:Program) (s i:Nat):Option Nat :=
 match P.underlying s with
 | some (.struct fs)=>match fs[i]? with
  | some f=>match P.info? f.type with
   | some inf=>if inf.size=0 then none else some f.offset
   | none=>none
  | none=>none
 | _=>none
class FieldAt (P:Program) (s i:Nat) (off:outParam Nat):Prop where
 h:fieldOffB P s i=some off
def tyB (P:Program) (t:Nat):Option (Bool×Nat) :=
 match P.underlying t,P.info? t with
 | some d,some i=>some (d.isRow,i.size)
 | _,_=>none
class TyC (P:Program) (t:Nat) (ag:outParam Bool) (n:outParam Nat):Prop where
 h:tyB P t=some (ag,n)
def slB (P:Program) (t:Nat):Option (Nat×Nat×Nat×Nat) :=
 match P.underlying t with
 | some (.slice E)=>match P.info? E with
  | some i=>match i.zero with
   | some z=>some (E,i.size,i.bytes,z.cells.size)
   | none=>none
  | none=>none
 | _=>none
class SlT (P:Program) (t:Nat) (E size bytes:outParam Nat):Prop where
 h:slB P t=some (E,size,bytes,size)
 pos:0 < size
def CV.cellB:CV→Bool
 | .v x=>x.oneCell'
 | .lst _ _=>true
 | _=>false
class EncL {α:Type} (enc:α→List CV) (size:outParam Nat):Prop where
 len:∀ x,(enc x).length=size
 pos:0 < size
 one:∀ x,(enc x).all CV.cellB=true
section
variable {P:Program}
theorem FieldAt.out {s i off:Nat} (I:FieldAt P s i off):∃ fs f inf,P.underlying s=some (.struct fs)∧fs[i]?=some f∧P.info? f.type=some inf∧inf.size≠0∧f.offset=off:=by
 have h:=I.h
 unfold fieldOffB at h
 split at h
 ·rename_i fs hu
  split at h
  ·rename_i f hf
   split at h
   ·rename_i inf hi
    split at h
    ·cases h
    ·rename_i hz;exact ⟨fs,f,inf,hu,hf,hi,hz,by simpa using h⟩
   ·cases h
  ·cases h
 ·cases h
theorem TyC.out {t:Nat} {ag:Bool} {n:Nat} (I:TyC P t ag n):∃ d i,P.underlying t=some d∧d.isRow=ag∧P.info? t=some i∧i.size=n:=by
 have h:=I.h
 unfold tyB at h
 split at h
 ·rename_i d i hu hi
  simp only [Option.some.injEq,Prod.mk.injEq] at h
  exact ⟨d,i,hu,h.1,hi,h.2⟩
 ·cases h
theorem SlT.out {t E size bytes:Nat} (I:SlT P t E size bytes):∃ i z,P.underlying t=some (.slice E)∧P.info? E=some i∧i.zero=some z∧i.size=size∧i.bytes=bytes∧z.cells.size=size:=by
 have h:=I.h
 unfold slB at h
 split at h
 ·rename_i e hu
  split at h
  ·rename_i i hi
   split at h
   ·rename_i z hz
    simp only [Option.some.injEq,Prod.mk.injEq] at h
    obtain ⟨rfl,h2,h3,h4⟩:=h
    exact ⟨i,z,hu,hi,hz,h2,h3,h4⟩
   ·cases h
  ·cases h
 ·cases h
theorem run_fieldAt {s i off:Nat} (I:FieldAt P s i off) (w:World) (g o:Nat):(Instr.fieldAt s (.pointer (some ⟨g,o,none⟩)) i).run P w=.ok (.pointer (some ⟨g,o+off,none⟩)) w:=by
 obtain ⟨fs,f,inf,h1,h2,h3,h4,h5⟩:=I.out
 have:(Addr.add ⟨g,o,none⟩ off)=⟨g,o+off,none⟩:=Kit.addr_add g o off
 simp [Instr.fieldAt,run_underlying h1,h2,Instr.sureAddr,fieldPlace,sizeOf,typeInfo,h3,h4,h5,this]
theorem iC {t:Nat} {n:Nat} (I:TyC P t false n) (w:World) (p:Addr) (v:Value) (h:w.cell? p=some v):(Instr.loadAt t (.pointer (some p))).run P w=.ok v w:=by
 obtain ⟨d,i,h1,h2,h3,h4⟩:=I.out
 have hagg:(isAgg t).run P w=.ok false w:=by
  unfold isAgg
  rw [Sem.run_bind,run_underlying h1 w]
  cases d<;>simp_all
 simp [Instr.loadAt,Instr.sureAddr,loadVar,hagg,h]
theorem run_load_a {t:Nat} {n:Nat} (I:TyC P t true n) (w:World) (g o:Nat) (cs:List Value) (hn:cs.length=n) (h:∀ (j:Nat) (v:Value),cs[j]?=some v→w.cell? ⟨g,o+j,none⟩=some v):(Instr.loadAt t (.pointer (some ⟨g,o,none⟩))).run P w=.ok (.agg cs.toArray) w:=by
 obtain ⟨d,i,h1,h2,h3,h4⟩:=I.out
 exact run_loadAt_mid w g o t cs d h h1 h2 (by rw [h3];simp [h4,hn])
theorem ex_load_s {t:Nat} {n:Nat} (I:TyC P t false n) {w:World} {p:Addr} {v:Value} {ρ:Operand→Value} {x:Operand} {dst:Option Tmp} {ty:TypeId} {pos:String} {af:Array Edge} (hx:ρ x=.pointer (some p)) (h:w.cell? p=some v):(execOp ρ ⟨dst,.load t x,ty,pos,af,none⟩).run P w=.ok (.value v) w:=by
 simp only [execOp,hx]
 rw [Sem.run_bind,iC I w p v h];rfl
theorem ex_load_a {t:Nat} {n:Nat} (I:TyC P t true n) {w:World} {g o:Nat} {cs:List Value} {ρ:Operand→Value} {x:Operand} {dst:Option Tmp} {ty:TypeId} {pos:String} {af:Array Edge} (hx:ρ x=.pointer (some ⟨g,o,none⟩)) (hn:cs.length=n) (h:∀ (j:Nat) (v:Value),cs[j]?=some v→w.cell? ⟨g,o+j,none⟩=some v):(execOp ρ ⟨dst,.load t x,ty,pos,af,none⟩).run P w=.ok (.value (.agg cs.toArray)) w:=by
 simp only [execOp,hx]
 rw [Sem.run_bind,run_load_a I w g o cs hn h];rfl
end
section
variable {P:Program} {ops:Array Oper} {Q:Exit→St→Prop} {X:List Oper→St→Prop} {rest:List Oper} {st:St} {d:Nat} {ty:TypeId} {pos:String} {af:Array Edge}
theorem ao_field_p [W:Walk P X] {x:Operand} {s i k b off:Nat} [I:FieldAt P s i k] (hx:st.ev x=some (.ptr b off)) (hd:Nat.blt d st.n=true) (h:X rest (st.put d (.ptr b (off+k)))):X (⟨some d,.fieldAddr s x i,ty,pos,af,none⟩::rest) st:=by
 refine aY rfl rfl hd (fun _ _ M a hs=>?_) h
 have hv:=hs.ev (by simp [Op.operands,Call.operands]) hx
 generalize he:a.eval x=u at hv
 cases hv with
 | ptr hm =>
  refine ⟨_,?_,.ptr hm⟩
  simp only [execOp,he]
  simp [run_fieldAt I]
theorem ao_field_e [W:Walk P X] {x:Operand} {s i k off:Nat} {xs:List CV} [I:FieldAt P s i k] (hx:st.ev x=some (.eptr xs off)) (hd:Nat.blt d st.n=true) (h:X rest (st.put d (.eptr xs (off+k)))):X (⟨some d,.fieldAddr s x i,ty,pos,af,none⟩::rest) st:=by
 refine aY rfl rfl hd (fun _ _ M a hs=>?_) h
 have hv:=hs.ev (by simp [Op.operands,Call.operands]) hx
 generalize he:a.eval x=u at hv
 cases hv with
 | eptr cs hF hc hr =>
  rename_i blk o
  refine ⟨.pointer (some ⟨blk,o+(off+k),none⟩),?_,.eptr cs hF hc hr⟩
  simp only [execOp,he]
  simp [run_fieldAt I,Nat.add_assoc]
theorem ao_load_p [W:Walk P X] {x:Operand} {t b off n:Nat} {t':TypeId} {l:List AV} {y:AV} [I:TyC P t false n] (hx:st.ev x=some (.ptr b off)) (hH:st.H b=some (.cells t' l)) (hy:l[off]?=some y) (hd:Nat.blt d st.n=true) (h:X rest (st.put d y)):X (⟨some d,.load t x,ty,pos,af,none⟩::rest) st:=by
 refine aY rfl rfl hd (fun _ _ M a hs=>?_) h
 have hv:=hs.ev (by simp [Op.operands,Call.operands]) hx
 generalize he:a.eval x=u at hv
 cases hv with
 | ptr hm =>
  rename_i g
  obtain ⟨g',arr,e1,_,_,e4,e5,e6⟩:=hs.sim.heap.cells b t' l (hs.H _ _ hH)
  rw [hm] at e1;cases e1
  have hlt:off < arr.size:=by rw [← e5];exact (List.getElem?_eq_some_iff.1 hy).1
  exact ⟨arr[off],ex_load_s I he (by simp [World.cell?,e4,hlt]),e6 off y _ hy (by simp [hlt])⟩
theorem ao_load_pa [W:Walk P X] {x:Operand} {t b off n:Nat} {t':TypeId} {l:List AV} [I:TyC P t true n] (ys:List AV) (hx:st.ev x=some (.ptr b off)) (hH:st.H b=some (.cells t' l)) (hy:(l.drop off).take n=ys) (hn:ys.length=n) (hd:Nat.blt d st.n=true) (h:X rest (st.put d (.agg ys))):X (⟨some d,.load t x,ty,pos,af,none⟩::rest) st:=by
 refine aY rfl rfl hd (fun _ _ M a hs=>?_) h
 have hv:=hs.ev (by simp [Op.operands,Call.operands]) hx
 generalize he:a.eval x=u at hv
 cases hv with
 | ptr hm =>
  rename_i g
  obtain ⟨g',arr,e1,_,_,e4,e5,e6⟩:=hs.sim.heap.cells b t' l (hs.H _ _ hH)
  rw [hm] at e1;cases e1
  have hln:((arr.toList.drop off).take n).length=n:=by
   have:((l.drop off).take n).length=n:=by rw [hy];exact hn
   simp only [List.length_take,List.length_drop,Array.length_toList] at this ⊢
   rw [← e5];exact this
  refine ⟨.agg ((arr.toList.drop off).take n).toArray,?_,.agg (by rw [hn];simpa using hln.symm) ?_⟩
  ·refine ex_load_a I he hln (fun j v hv=>?_)
   have hj:j < n:=by have:=(List.getElem?_eq_some_iff.1 hv).1;omega
   rw [List.getElem?_take_of_lt hj,List.getElem?_drop,Array.getElem?_toList] at hv
   simp [World.cell?,e4,hv]
  ·intro i y u hy' hu
   subst hy
   have hi:i < n:=by have:=(List.getElem?_eq_some_iff.1 hy').1;omega
   rw [List.getElem?_take_of_lt hi,List.getElem?_drop] at hy'
   rw [List.getElem?_toArray,List.getElem?_take_of_lt hi,List.getElem?_drop,Array.getElem?_toList] at hu
   exact e6 _ y u hy' hu
theorem ao_load_e [W:Walk P X] {x:Operand} {t off n:Nat} {xs:List CV} {y:CV} {ys:List CV} [I:TyC P t false n] (hx:st.ev x=some (.eptr xs off)) (hy:xs.drop off=y::ys) (hd:Nat.blt d st.n=true) (h:X rest (st.put d (.c y))):X (⟨some d,.load t x,ty,pos,af,none⟩::rest) st:=by
 refine aY rfl rfl hd (fun _ _ M a hs=>?_) h
 have hv:=hs.ev (by simp [Op.operands,Call.operands]) hx
 generalize he:a.eval x=u at hv
 have hg:xs[off]?=some y:=by
  have:(xs.drop off)[0]?=some y:=by rw [hy];rfl
  rwa [List.getElem?_drop] at this
 cases hv with
 | eptr cs hF hc hr =>
  exact ⟨cs off,ex_load_s I he (hc off y hg),.c (hr off y hg)⟩
theorem ao_load_ea [W:Walk P X] {x:Operand} {t off n:Nat} {xs:List CV} (zs:List CV) {ys:List CV} [I:TyC P t true n] (hx:st.ev x=some (.eptr xs off)) (hy:xs.drop off=zs++ys) (hn:zs.length=n) (hd:Nat.blt d st.n=true) (h:X rest (st.put d (.agg (zs.map .c)))):X (⟨some d,.load t x,ty,pos,af,none⟩::rest) st:=by
 refine aY rfl rfl hd (fun _ _ M a hs=>?_) h
 have hv:=hs.ev (by simp [Op.operands,Call.operands]) hx
 generalize he:a.eval x=u at hv
 have hg:∀ i z,zs[i]?=some z→xs[off+i]?=some z:=fun i z hz=>by
  have hi:=(List.getElem?_eq_some_iff.1 hz).1
  rw [← List.getElem?_drop,hy,List.getElem?_append_left hi];exact hz
 cases hv with
 | eptr cs hF hc hr =>
  rename_i blk o
  have hln:((List.range n).map fun i=>cs (off+i)).length=n:=by simp
  refine ⟨.agg ((List.range n).map fun i=>cs (off+i)).toArray,?_,.agg (by simp [hn]) ?_⟩
  ·refine ex_load_a I he hln (fun j v hv=>?_)
   have hj:j < n:=by have:=(List.getElem?_eq_some_iff.1 hv).1;omega
   have e:cs (off+j)=v:=by simpa [hj] using hv
   rw [← e,Nat.add_assoc]
   exact hc (off+j) (zs[j]'(by omega)) (hg j _ (by simp [show j < zs.length by omega]))
  ·intro i y u hy' hu
   obtain ⟨z,h1,rfl⟩:∃ z,zs[i]?=some z∧AV.c z=y:=by simpa using hy'
   have hi:=(List.getElem?_eq_some_iff.1 h1).1
   have e:cs (off+i)=u:=by
    have:i < n:=by omega
    simpa [this] using hu
   rw [← e]
   exact .c (hr _ z (hg i z h1))
theorem ao_load_v [W:Walk P X] {x:Operand} {t b n off m E size:Nat} {l:List CV} {y:CV} {ys:List CV} [I:TyC P t false m] (hx:st.ev x=some (.vptr b n off)) (hH:st.H b=some (.vec E size l)) (hn:l.length=n * size) (hy:l.drop off=y::ys) (hd:Nat.blt d st.n=true) (h:X rest (st.put d (.c y))):X (⟨some d,.load t x,ty,pos,af,none⟩::rest) st:=by
 refine aY rfl rfl hd (fun _ _ M a hs=>?_) h
 have hv:=hs.ev (by simp [Op.operands,Call.operands]) hx
 generalize he:a.eval x=u at hv
 have hg:l[off]?=some y:=by
  have:(l.drop off)[0]?=some y:=by rw [hy];rfl
  rwa [List.getElem?_drop] at this
 cases hv with
 | vptr hb ho hh =>
  obtain ⟨h1,h2⟩:=hh E size l (hs.H _ _ hH)
  obtain ⟨g,cap,h3,rfl⟩:=h2 hn
  obtain ⟨v,n',cs,e1,e2,e3,e4,e5,e6⟩:=hs.sim.heap.vec b E size l (hs.H _ _ hH)
  rw [h3] at e1;cases e1
  have hlt:off < cs.length:=by rw [e4.1,← e2];exact (List.getElem?_eq_some_iff.1 hg).1
  refine ⟨cs[off],?_,.c (e5 off y _ hg (by simp [hlt]))⟩
  have hc:M.w.cell? ⟨g,off,none⟩=some cs[off]:=by
   have:=World.ownsRow.cells e4 (g:=g) rfl off cs[off] (by simp [hlt])
   rwa [Kit.addr_add,Nat.zero_add] at this
  exact ex_load_s I he hc
theorem ao_load_va [W:Walk P X] {x:Operand} {t b n off m E size:Nat} {l:List CV} (zs:List CV) {ys:List CV} [I:TyC P t true m] (hx:st.ev x=some (.vptr b n off)) (hH:st.H b=some (.vec E size l)) (hn:l.length=n * size) (hy:l.drop off=zs++ys) (hm:zs.length=m) (hd:Nat.blt d st.n=true) (h:X rest (st.put d (.agg (zs.map .c)))):X (⟨some d,.load t x,ty,pos,af,none⟩::rest) st:=by
 refine aY rfl rfl hd (fun _ _ M a hs=>?_) h
 have hv:=hs.ev (by simp [Op.operands,Call.operands]) hx
 generalize he:a.eval x=u at hv
 have hg:∀ i z,zs[i]?=some z→l[off+i]?=some z:=fun i z hz=>by
  have hi:=(List.getElem?_eq_some_iff.1 hz).1
  rw [← List.getElem?_drop,hy,List.getElem?_append_left hi];exact hz
 cases hv with
 | vptr hb ho hh =>
  obtain ⟨h1,h2⟩:=hh E size l (hs.H _ _ hH)
  obtain ⟨g,cap,h3,rfl⟩:=h2 hn
  obtain ⟨v,n',cs,e1,e2,e3,e4,e5,e6⟩:=hs.sim.heap.vec b E size l (hs.H _ _ hH)
  rw [h3] at e1;cases e1
  have hlen:cs.length=l.length:=by rw [e4.1,← e2]
  have hln:((cs.drop off).take m).length=m:=by
   have:=congrArg List.length hy
   simp only [List.length_drop,List.length_append] at this
   simp only [List.length_take,List.length_drop];omega
  refine ⟨.agg ((cs.drop off).take m).toArray,?_,.agg (by simpa [hm] using hln.symm) ?_⟩
  ·refine ex_load_a I he hln (fun j v hv=>?_)
   have hj:j < m:=by have:=(List.getElem?_eq_some_iff.1 hv).1;omega
   rw [List.getElem?_take_of_lt hj,List.getElem?_drop] at hv
   have:=World.ownsRow.cells e4 (g:=g) rfl (off+j) v hv
   rwa [Kit.addr_add,Nat.zero_add] at this
  ·intro i y u hy' hu
   obtain ⟨z,h1',rfl⟩:∃ z,zs[i]?=some z∧AV.c z=y:=by simpa using hy'
   have hi:i < m:=by have:=(List.getElem?_eq_some_iff.1 h1').1;omega
   rw [List.getElem?_toArray,List.getElem?_take_of_lt hi,List.getElem?_drop] at hu
   exact .c (e5 _ z u (hg i z h1') hu)
end
end Go.Proofs.YtdndfncpglfdeaaGreatDoor.Ev

namespace Go.Proofs.YtdndfncpglfdeaaGreatDoor.Ev
set_option linter.unusedVariables false
set_option linter.unusedSimpArgs false
open Go.RowKit
theorem fq (st:St) (x:AB) (b:Nat):(st.new x).H b=if st.nx=b then some x else st.H b:=by
 unfold St.H St.new
 simp only [az]
 by_cases h:st.nx=b
 ·simp [h]
 ·simp [h]
theorem H_set (st:St) (b':Nat) (x:AB) (b:Nat):(st.set b' x).H b=if b'=b then some x else st.H b:=by
 unfold St.H St.set
 simp only [az]
 by_cases h:b'=b
 ·simp [h]
 ·simp [h]
def Wd.new (M:Wd) (st:St) (x:AB) (c:Conc) (o:Obj):Wd :=
 { m:=fun b=>if b=M.nx then c else M.m b,H:=(st.new x).H,nx:=M.nx+1,F:=M.F,w:=M.w.alloc o,fp:=M.fp }
theorem iH (w:World) (o:Obj) (b:Nat) (h:b < w.heap.size):(w.alloc o).heap[b]?=w.heap[b]?:=Below.heap_alloc w o b h
theorem alloc_size (w:World) (o:Obj):(w.alloc o).heap.size=w.heap.size+1:=by show (w.heap.push o).size=_;simp
theorem alloc_new (w:World) (o:Obj):(w.alloc o).heap[w.heap.size]?=some o:=by show (w.heap.push o)[w.heap.size]?=_;simp
section
variable {base:Nat} {w0:W0} {st:St} {M:Wd} {a:Act}
theorem Sim.extNew (hs:Sim base w0 st M a) (x:AB) (c:Conc) (o:Obj):Ext M (M.new st x c o) where
 m:=fun b g hb=>by
  have:b≠M.nx:=fun he=>hs.heap.fresh b (by omega) g hb
  simp only [Wd.new];rw [if_neg this];exact hb
 v:=fun b E size l' hb hl=>by
  simp only [Wd.new] at hl ⊢
  rw [fq,if_neg (by rw [← hs.nx];omega),← hs.H] at hl
  exact ⟨l',hl,Nat.le_refl _,fun _=>if_neg (by omega)⟩
 nx:=by simp [Wd.new]
 F:=fun b hb=>⟨hb,iH _ _ _ (hs.heap.frz b hb)⟩
theorem fM {M:Wd} {base:Nat} (h:HeapOK M base) {b g:Nat} (hb:M.H b≠none) (hg:(M.m b).block=some g):g < M.w.heap.size:=by
 cases hx:M.H b with
 | none=>exact absurd hx hb
 | some x =>
  cases x with
  | cells t l =>
   obtain ⟨g',arr,e1,_,_,e4,_⟩:=h.cells b t l hx
   rw [e1] at hg
   simp only [Conc.block,Option.some.injEq] at hg;subst hg
   exact (Array.getElem?_eq_some_iff.1 e4).1
  | vec E size l =>
   obtain ⟨v,n,cs,e1,_,_,e4,_⟩:=h.vec b E size l hx
   rw [e1] at hg
   exact (World.ownsRow.lt e4 g hg).2
  | obj p =>
   obtain ⟨g',e1,e2,_,e4,_⟩:=h.obj b p hx
   rw [e1] at hg
   simp only [Conc.block,Option.some.injEq] at hg;subst hg
   exact (e4 _ e2).2.1
theorem Sim.newB (hs:Sim base w0 st M a) {x:AB} {c:Conc} {arr:Array Value} {t:TypeId} (hc:∀ g,c.block=some g→g=M.w.heap.size)
  (hcells:∀ t' l,x=.cells t' l→t'=t∧c=.blk M.w.heap.size∧l.length=arr.size∧∀ (i:Nat) (y:AV) (u:Value),l[i]?=some y→arr[i]?=some u→RA M y u)
  (hvec:∀ E size l,x=.vec E size l→∃ n cap,c=.row (.slice (some ⟨M.w.heap.size,0,none⟩) n cap)∧E=t∧0 < size∧l.length=n * size∧n≤cap∧cap≤maxLen∧arr.size=cap * size∧∀ (i:Nat) (y:CV) (u:Value),l[i]?=some y→arr[i]?=some u→RC M.F M.w y u) (hno:∀ p,x≠.obj p:=by intro p h;cases h) :
  Sim base w0 (st.new x) (M.new st x c (.cells arr t)) a:=by
 have hext:=hs.extNew x c (.cells arr t)
 have hH:∀ b,(M.new st x c (.cells arr t)).H b=if M.nx=b then some x else M.H b:=fun b=>by
  show (st.new x).H b=_
  rw [fq,hs.nx,hs.H]
 have hm:(M.new st x c (.cells arr t)).m M.nx=c:=by simp [Wd.new]
 have hm':∀ b,b≠M.nx→(M.new st x c (.cells arr t)).m b=M.m b:=fun b hb=>by simp [Wd.new,hb]
 have hF:∀ b,M.F b→M.F b∧(M.new st x c (.cells arr t)).w.heap[b]?=M.w.heap[b]?:=hext.F
 refine ⟨rfl,by show M.nx+1=st.nx+1;rw [hs.nx],hs.n,fun i y hy=>?_,fun g xs hg=>(hs.gl g xs hg).mono hext,⟨?_,?_,?_,?_,?_,?_,?_⟩,?_,?_,hs.defs,hs.old⟩
 ·obtain ⟨v,h1,h2⟩:=hs.env i y hy
  exact ⟨v,h1,h2.mono hext⟩
 ·intro b t' l hl
  rw [hH] at hl
  by_cases hb:M.nx=b
  ·subst hb
   rw [if_pos rfl] at hl
   simp only [Option.some.injEq] at hl
   obtain ⟨rfl,h2,h3,h4⟩:=hcells t' l hl
   refine ⟨M.w.heap.size,arr,by rw [hm];exact h2,hs.base,fun hf=>absurd (hs.heap.frz _ hf) (by omega),alloc_new _ _,h3,fun i y u h5 h6=>(h4 i y u h5 h6).mono hext⟩
  ·rw [if_neg hb] at hl
   obtain ⟨g,arr',e1,e2,e3,e4,e5,e6⟩:=hs.heap.cells b t' l hl
   refine ⟨g,arr',by rw [hm' b (Ne.symm hb)];exact e1,e2,e3,?_,e5,fun i y u h5 h6=>(e6 i y u h5 h6).mono hext⟩
   show (M.w.alloc _).heap[g]?=_
   rw [iH _ _ _ (Array.getElem?_eq_some_iff.1 e4).1];exact e4
 ·intro b E size l hl
  rw [hH] at hl
  by_cases hb:M.nx=b
  ·subst hb
   rw [if_pos rfl] at hl
   simp only [Option.some.injEq] at hl
   obtain ⟨n,cap,h1,rfl,h3,h4,h5,h6,h7,h8⟩:=hvec E size l hl
   have hle:n * size≤arr.size:=by rw [h7];exact Nat.mul_le_mul_right _ h5
   refine ⟨_,n,arr.toList.take (n * size),by rw [hm];exact h1,h4,h3,⟨by simp;omega,Or.inr ⟨M.w.heap.size,cap,arr,rfl,hs.base,alloc_new _ _,h5,h6,h7,rfl⟩⟩,fun i y u h9 h10=>?_,fun g hg hf=>?_⟩
   ·have hi:i < n * size:=by rw [← h4];exact (List.getElem?_eq_some_iff.1 h9).1
    rw [List.getElem?_take_of_lt hi,Array.getElem?_toList] at h10
    exact (h8 i y u h9 h10).mono hF
   ·simp only [Value.ownBlock,Option.some.injEq] at hg;subst hg
    exact absurd (hs.heap.frz _ hf) (by omega)
  ·rw [if_neg hb] at hl
   obtain ⟨v,n,cs,e1,e2,e3,e4,e5,e6⟩:=hs.heap.vec b E size l hl
   exact ⟨v,n,cs,by rw [hm' b (Ne.symm hb)];exact e1,e2,e3,World.ownsRow.alloc e4 _,fun i y u h9 h10=>(e5 i y u h9 h10).mono hF,e6⟩
 ·intro b b' g hbb hb hb' hg hg'
  rw [hH] at hb hb'
  have hold:∀ k,k≠M.nx→(if M.nx=k then some x else M.H k)≠none→((M.new st x c (.cells arr t)).m k).block=some g→g < M.w.heap.size:=fun k hk h1 h2=>by
   rw [if_neg (Ne.symm hk)] at h1
   rw [hm' k hk] at h2
   exact fM hs.heap h1 h2
  by_cases h1:b=M.nx
  ·subst h1
   rw [hm] at hg
   have:=hc g hg
   have:=hold b' (Ne.symm hbb) hb' hg'
   omega
  ·by_cases h2:b'=M.nx
   ·subst h2
    rw [hm] at hg'
    have:=hc g hg'
    have:=hold b h1 hb hg
    omega
   ·rw [if_neg (Ne.symm h1)] at hb
    rw [if_neg (Ne.symm h2)] at hb'
    rw [hm' b h1] at hg
    rw [hm' b' h2] at hg'
    exact hs.heap.sep b b' g hbb hb hb' hg hg'
 ·intro b hb
  rw [hH] at hb
  show b < M.nx+1
  by_cases h1:M.nx=b
  ·omega
  ·rw [if_neg h1] at hb
   have:=hs.heap.lt b hb;omega
 ·intro b hb g
  have hb:M.nx+1≤b:=hb
  rw [hm' b (by omega)]
  exact hs.heap.fresh b (by omega) g
 ·intro b hb
  show b < (M.w.alloc _).heap.size
  rw [alloc_size]
  have:=hs.heap.frz b hb;omega
 ·intro b p hp
  rw [hH] at hp
  by_cases h1:M.nx=b
  ·rw [if_pos h1,Option.some.injEq] at hp;exact absurd hp (hno p)
  rw [if_neg h1] at hp
  obtain ⟨g,e1,e2,e3,e4,e5⟩:=hs.heap.obj b p hp
  refine ⟨g,by rw [hm' b (Ne.symm h1)];exact e1,e2,p.stable _ _ _ _ _ _ e3 (fun k hk=>⟨hk,iH _ _ _ (hs.heap.frz k hk)⟩) (fun k hk=>iH _ _ _ (e4 k hk).2.1),fun k hk=>⟨(e4 k hk).1,by show k < (M.w.alloc _).heap.size;rw [alloc_size];have:=(e4 k hk).2.1;omega,(e4 k hk).2.2⟩,fun b' k hbb hk=>⟨fun hb'=>?_,fun p' hp'=>?_⟩⟩
  ·by_cases h2:M.nx=b'
   ·subst h2
    rw [hm]
    intro hc'
    have:=hc k hc'
    have:=(e4 k hk).2.1;omega
   ·rw [hH,if_neg h2] at hb'
    rw [hm' b' (Ne.symm h2)]
    exact (e5 b' k hbb hk).1 hb'
  ·rw [hH] at hp'
   by_cases h2:M.nx=b'
   ·rw [if_pos h2,Option.some.injEq] at hp';exact absurd hp' (hno p')
   ·rw [if_neg h2] at hp'
    exact (e5 b' k hbb hk).2 p' hp'
 ·exact hs.below.alloc hs.base _
 ·show base≤(M.w.alloc _).heap.size
  rw [alloc_size];have:=hs.base;omega
end
def AV.cellB:AV→Bool
 | .c (.v x)=>x.oneCell'
 | .c (.lst _ _)=>true
 | .c _=>false
 | .agg _=>false
 | .tup _=>false
 | .ghost _ _ _=>false
 | _=>true
theorem RA.one {M:Wd} {y:AV} {u:Value} (h:RA M y u) (hc:y.cellB=true):u.oneCell'=true:=by
 cases h with
 | c h =>
  cases h with
  | v x=>exact hc
  | agg=>cases hc
  | tup=>cases hc
  | nil=>rfl
  | e0=>cases hc
  | lst=>rfl
 | agg=>cases hc
 | tup=>cases hc
 | ptr=>rfl
 | vec _ ho _=>exact ho
 | vptr _ ho _=>exact ho
 | eptr=>rfl
 | fn=>rfl
 | ghost=>cases hc
 | ref _ ho=>exact ho
theorem dQ {u:Value} (h:u.oneCell'=true):u.cells=#[u]:=by
 cases u<;>first|rfl|cases h
section
variable {P:Program} {ops:Array Oper} {Q:Exit→St→Prop} {rest:List Oper} {st:St} {d:Nat} {ty:TypeId} {pos:String} {af:Array Edge}
theorem ao_new {o:Oper} {x:AB} {y:AV} (hg:o.guard=none) (hdst:o.dst=some d) (hd:Nat.blt d st.n=true)
  (hrun:∀ base w0 M a,Sim base w0 st M a→∃ (u:Value) (c:Conc) (arr:Array Value) (t:TypeId),(execOp a.eval o).run P M.w=.ok (.value u) (M.w.alloc (.cells arr t))∧Sim base w0 (st.new x) (M.new st x c (.cells arr t)) a∧RA (M.new st x c (.cells arr t)) y u)
  (h:aP P ops Q rest ((st.new x).put d y)):aP P ops Q (o::rest) st:=by
 intro base w0 M a hs
 obtain ⟨u,c,arr,t,hr,h1,h2⟩:=hrun base w0 M a hs
 refine wl_value hg hr ?_
 rw [hdst]
 have:=h base w0 (M.new st x c (.cells arr t)) _ (h1.put hd h2)
 exact aM (fun e a w=>bN.ext (hs.extNew x c _)) _ _ _ this
theorem ao_box {x:Operand} {t:TypeId} {y:AV} (hx:st.ev x=some y) (hc:y.cellB=true) (hd:Nat.blt d st.n=true) (h:aP P ops Q rest ((st.new (.cells t [y])).put d (.ptr st.nx 0))):aP P ops Q (⟨some d,.box t x,ty,pos,af,none⟩::rest) st:=by
 refine ao_new rfl rfl hd (fun base w0 M a hs=>?_) h
 have hv:=hs.ev hx
 have h1:=hv.one hc
 refine ⟨.pointer (some ⟨M.w.heap.size,0,none⟩),.blk M.w.heap.size,#[a.eval x],t,?_,hs.newB (fun g hg=>by simpa [Conc.block] using hg.symm) ?_ (fun _ _ _ h=>by cases h),?_⟩
 ·simp only [execOp]
  simp [Instr.box,newVar,newRow,dQ h1]
 ·intro t' l hl
  simp only [AB.cells.injEq] at hl
  obtain ⟨rfl,rfl⟩:=hl
  refine ⟨rfl,rfl,rfl,fun i z u h2 h3=>?_⟩
  cases i with
  | zero=>simp at h2 h3;subst h2;subst h3;exact hv
  | succ i=>simp at h2
 ·refine .ptr ?_
  simp [Wd.new,hs.nx]
theorem ao_box_a {x:Operand} {t:TypeId} {ys:List AV} (hx:st.ev x=some (.agg ys)) (hd:Nat.blt d st.n=true) (h:aP P ops Q rest ((st.new (.cells t ys)).put d (.ptr st.nx 0))):aP P ops Q (⟨some d,.box t x,ty,pos,af,none⟩::rest) st:=by
 refine ao_new rfl rfl hd (fun base w0 M a hs=>?_) h
 have hv:=hs.ev hx
 generalize he:a.eval x=u at hv
 cases hv with
 | agg hl hh =>
  rename_i vs
  refine ⟨.pointer (some ⟨M.w.heap.size,0,none⟩),.blk M.w.heap.size,vs,t,?_,hs.newB (fun g hg=>by simpa [Conc.block] using hg.symm) ?_ (fun _ _ _ h=>by cases h),?_⟩
  ·simp only [execOp,he]
   simp [Instr.box,newVar,newRow,Value.cells]
  ·intro t' l hl'
   simp only [AB.cells.injEq] at hl'
   obtain ⟨rfl,rfl⟩:=hl'
   exact ⟨rfl,rfl,hl,hh⟩
  ·refine .ptr ?_
   simp [Wd.new,hs.nx]
def zeroB (P:Program) (t:Nat):Option (List Value):=match P.info? t with|some i=>i.zero.map (fun z=>z.cells.toList)|none=>none
class ZeroT (P:Program) (t:Nat) (zs:outParam (List Value)):Prop where
 h:zeroB P t=some zs
theorem ZeroT.out {t:Nat} {zs:List Value} (I:ZeroT P t zs):∃ i z,P.info? t=some i∧i.zero=some z∧z.cells.toList=zs:=by
 have h:=I.h
 unfold zeroB at h
 split at h
 ·rename_i i hi
  cases hz:i.zero with
  | none=>rw [hz] at h;cases h
  | some z=>rw [hz] at h;exact ⟨i,z,hi,hz,by simpa using h⟩
 ·cases h
theorem ao_alloc {t:TypeId} {zs:List Value} [I:ZeroT P t zs] (hd:Nat.blt d st.n=true) (h:aP P ops Q rest ((st.new (.cells t (zs.map fun z=>.c (.v z)))).put d (.ptr st.nx 0))):aP P ops Q (⟨some d,.alloc t,ty,pos,af,none⟩::rest) st:=by
 refine ao_new rfl rfl hd (fun base w0 M a hs=>?_) h
 obtain ⟨i,z,h1,h2,h3⟩:=I.out
 refine ⟨.pointer (some ⟨M.w.heap.size,0,none⟩),.blk M.w.heap.size,z.cells,t,?_,hs.newB (fun g hg=>by simpa [Conc.block] using hg.symm) ?_ (fun _ _ _ h=>by cases h),?_⟩
 ·simp only [execOp]
  simp [Instr.alloc,zeroValue,typeInfo,h1,h2,newVar,newRow]
 ·intro t' l hl
  simp only [AB.cells.injEq] at hl
  obtain ⟨rfl,rfl⟩:=hl
  subst h3
  refine ⟨rfl,rfl,by simp,fun i y u hy hu=>?_⟩
  simp only [List.getElem?_map,Array.getElem?_toList,hu,Option.map_some,Option.some.injEq] at hy
  subst hy;exact .c (.v _)
 ·refine .ptr ?_
  simp [Wd.new,hs.nx]
end
end Go.Proofs.YtdndfncpglfdeaaGreatDoor.Ev
