/- Ev25 Ev26 Ev27 Ev28 Ev29 Ev30 Ev31 Ev32 Ev33 Ev34 Ev35 Ev36 Ev37 Ev43 Ev50 Ev51: texts laid together. -/
import Derived.Test.YtdndfncpglfdeaaGreatDoorMrgE3
import Derived.Laws.Concat
import Derived.Laws.Strings2
import Derived.Laws.Strings3
import Derived.Laws.IdiomStrings
import Derived.Laws.Build
import Derived.Laws.Slices
import Derived.MapKept

namespace Go.Proofs.YtdndfncpglfdeaaGreatDoor.Ev
set_option linter.unusedVariables false
set_option linter.unusedSimpArgs false
open Go.RowKit
section
variable {P:Program} {ops:Array Oper} {n:Nat}
inductive DG4 (P:Program) (ops:Array Oper) (bs:List Nat) (o:Oper) (st:St):St→Prop
 | q {d:Nat} {y:AV} (h:DY P ops o st d y):DG4 P ops bs o st (st.put d y)
 | s {b:Nat} {x:AB} (hb:b∈bs) (hlt:b < st.nx) (h:SStep P ops o st b x):DG4 P ops bs o st (st.set b x)
 | a {d:Nat} {x:AB} (h:AOp P o d x) (hd:Nat.blt d st.n=true):DG4 P ops bs o st ((st.new x).put d (.ptr st.nx 0))
variable {bs:List Nat}
theorem DG4.eq {o:Oper} {s t s':St} (h:DG4 P ops bs o s s') (e:StEq2 s t):∃ t',DG4 P ops bs o t t'∧StEq2 s' t':=by
 cases h with
 | q h=>exact ⟨_,.q (h.eq2 e),e.put _ _⟩
 | s hb hlt h=>exact ⟨_,.s hb (by rw [← e.nx];exact hlt) (h.of e.n e.gl (e.H _) (fun z _=>e.ev z)),e.set _ _⟩
 | a h hd=>exact ⟨_,.a h (by rw [← e.n];exact hd),by rw [e.nx];exact (e.new _).put _ _⟩
def cH (P:Program) (ops:Array Oper) (bs:List Nat) (L:Array Bool→St→Prop):Nat→Array Bool→St→Prop
 | 0,listed,st=>L listed st
 | f+1,listed,st=>Region.ready .any ops listed≠[]∧∀ i∈Region.ready .any ops listed,∃ o st',ops[i]?=some o∧DG4 P ops bs o st st'∧cH P ops bs L f (listed.setIfInBounds i true) st'
variable {L:Array Bool→St→Prop}
theorem cH.eq (hL:∀ listed s t,StEq2 s t→L listed s→L listed t):∀ (f:Nat) (listed:Array Bool) (s t:St),StEq2 s t→cH P ops bs L f listed s→cH P ops bs L f listed t
 | 0,listed,s,t,e,h=>hL listed s t e h
 | f+1,listed,s,t,e,h=>⟨h.1,fun i hi=>by
  obtain ⟨o,s',h2,h3,h4⟩:=h.2 i hi
  obtain ⟨t',h5,h6⟩:=h3.eq e
  exact ⟨o,t',h2,h5,cH.eq hL f _ _ _ h6 h4⟩⟩
def upB (ops:Array Oper):Nat→Nat→Oper→Bool
 | 0,_,_=>false
 | f+1,i,o=>o.after.toList.any fun e=>Region.binds .any e && (Nat.beq e.on i || match ops[e.on]? with|some o'=>upB ops f i o'|none=>false)
def Cl (ops:Array Oper) (listed:Array Bool):Prop:=∀ (j:Nat) (oj:Oper),ops[j]?=some oj→listed.getD j false=true→∀ e∈oj.after,Region.binds .any e=true→listed.getD e.on false=true
theorem up_listed {listed:Array Bool} (cl:Cl ops listed) {i:Nat}:∀ (f:Nat) (o:Oper),upB ops f i o=true→(∀ e∈o.after,Region.binds .any e=true→listed.getD e.on false=true)→listed.getD i false=true
 | 0,o,h,_=>by cases h
 | f+1,o,h,ha=>by
  unfold upB at h
  simp only [List.any_eq_true,Bool.and_eq_true,Bool.or_eq_true] at h
  obtain ⟨e,h1,h2,h3⟩:=h
  have he:=ha e (by simpa using h1) h2
  rcases h3 with h3|h3
  ·rw [← cu h3];exact he
  ·split at h3
   ·rename_i o' ho
    exact up_listed cl f o' h3 (cl _ _ ho he)
   ·cases h3
theorem Cl.set {listed:Array Bool} (cl:Cl ops listed) {i:Nat} (hr:i∈Region.ready .any ops listed):Cl ops (listed.setIfInBounds i true):=by
 obtain ⟨h1,o,h2,h3⟩:=mem_ready.1 hr
 have mono:∀ j,listed.getD j false=true→(listed.setIfInBounds i true).getD j false=true:=fun j hj=>by
  by_cases he:i=j
  ·subst he
   have:=getD_both h1
   rw [this] at hj;cases hj
  ·rw [getD_set_ne false he];exact hj
 intro j oj hj hl e he hb
 by_cases hij:i=j
 ·subst hij
  have:oj=o:=Option.some.inj (hj.symm.trans h2)
  subst this
  exact mono _ (h3 e he hb)
 ·rw [getD_set_ne false hij] at hl
  exact mono _ (cl j oj hj hl e he hb)
theorem cl_0 (n:Nat):Cl ops (Array.replicate n false):=fun j _ _ hl=>by rw [getD_replicate_false] at hl;cases hl
def Loose (P:Program) (ops:Array Oper) (bs:List Nat) (i:Nat) (o:Oper) (st:St) (d:Nat) (y:AV):Prop :=
 DY P ops o (st.hide bs) d y∨(DY P ops o st d y∧∀ (k:Nat) (ok:Oper),ops[k]?=some ok→ok.dst=none→upB ops 8 i ok=true)
theorem unhide {o:Oper} {st:St} {d:Nat} {y:AV} (h:DY P ops o (st.hide bs) d y):DY P ops o st d y :=
 h.of rfl (fun b z hz=>by
  rw [f9] at hz
  split at hz
  ·cases hz
  ·exact hz) rfl (fun z _=>by cases z<;>rfl) (fun _ _ _ _ _=>rfl)
theorem Loose.dy {i:Nat} {o:Oper} {st:St} {d:Nat} {y:AV} (h:Loose P ops bs i o st d y):DY P ops o st d y:=by
 rcases h with h|h
 ·exact unhide h
 ·exact h.1
theorem DAny4_first {i:Nat} {oi:Oper} (hi:ops[i]?=some oi) (hL:∀ listed s t,StEq2 s t→L listed s→L listed t) (hdone:∀ listed st,L listed st→Region.ready .any ops listed=[]) :
  ∀ (f:Nat) (listed:Array Bool) (st:St) (d:Nat) (y:AV),Cl ops listed→Fr st →
   (∀ j oj,ops[j]?=some oj→j≠i→listed.getD j true=false→(∀ e∈oj.after,Region.binds .any e=true→e.on≠i)→oi.apart ops oj=true) →
   i∈Region.ready .any ops listed→Loose P ops bs i oi st d y→cH P ops bs L f (listed.setIfInBounds i true) (st.put d y)→cH P ops bs L (f+1) listed st:=by
 intro f
 induction f with
 | zero =>
  intro listed st d y cl fr hfree hr hy H
  refine ⟨fun h0=>(by rw [h0] at hr;cases hr),fun j hj=>?_⟩
  by_cases hji:j=i
  ·subst hji;exact ⟨oi,_,hi,.q hy.dy,H⟩
  ·have:=ready_mono hj hji
   rw [hdone _ _ H] at this;cases this
 | succ f ih =>
  intro listed st d y cl fr hfree hr hy H
  refine ⟨fun h0=>(by rw [h0] at hr;cases hr),fun j hj=>?_⟩
  by_cases hji:j=i
  ·subst hji;exact ⟨oi,_,hi,.q hy.dy,H⟩
  ·obtain ⟨oj,sj,h2,h3,h4⟩:=H.2 j (ready_mono hj hji)
   obtain ⟨hjun,oj',hoj,hall⟩:=mem_ready.1 hj
   have hoo:oj'=oj:=Option.some.inj (hoj.symm.trans h2)
   subst hoo
   have hnot:∀ e∈oj'.after,Region.binds .any e=true→e.on≠i:=fun e he hb heq=>by
    have h1:=hall e he hb
    have h0:=getD_both (mem_ready.1 hr).1
    rw [heq,h0] at h1
    cases h1
   obtain ⟨a1,a2,a3⟩:=Oper.apart_spec (hfree j oj' hoj hji hjun hnot)
   have hdi:oi.dst=some d:=hy.dy.1
   have hfree':∀ k ok,ops[k]?=some ok→k≠i→(listed.setIfInBounds j true).getD k true=false→(∀ e∈ok.after,Region.binds .any e=true→e.on≠i)→oi.apart ops ok=true:=fun k ok hk hki hun hno=>by
    refine hfree k ok hk hki ?_ hno
    by_cases hjk:j=k
    ·subst hjk;exact hjun
    ·rw [getD_set_ne true hjk] at hun;exact hun
   cases h3 with
   | @q dj yj h3 =>
    have hdj:oj'.dst=some dj:=h3.1
    have hne:d≠dj:=fun e=>a2 d hdi (by rw [hdj,e])
    have h3':DY P ops oj' st dj yj:=h3.unput (a1 d hdi)
    have hy':Loose P ops bs i oi (st.put dj yj) d y:=hy.imp (fun h=>DY.put (s:=st.hide bs) h yj (a3 dj hdj)) (fun ⟨h,b⟩=>⟨h.put yj (a3 dj hdj),b⟩)
    refine ⟨oj',_,h2,.q h3',?_⟩
    refine ih (listed.setIfInBounds j true) (st.put dj yj) d y (cl.set hj) (fr.put _ _) hfree' (ready_mono hr (Ne.symm hji)) hy' ?_
    rw [Array.setIfInBounds_comm _ _ hji]
    exact cH.eq hL f _ _ _ (StEq2.comm st hne y yj) h4
   | @a dj x h3 hd3 =>
    have hdj:oj'.dst=some dj:=h3.2.1
    have hne:d≠dj:=fun e=>a2 d hdi (by rw [hdj,e])
    have hy1:DY P ops oi (st.hide bs) d y→DY P ops oi ((st.new x).hide bs) d y:=fun hy=>hy.of rfl (fun b' z hz=>by
     rw [f9] at hz ⊢
     by_cases hm:b'∈bs
     ·rw [if_pos hm] at hz;cases hz
     ·rw [if_neg hm] at hz ⊢
      rw [fq,if_neg]
      ·exact hz
      ·intro e;subst e;rw [fr _ (Nat.le_refl _)] at hz;cases hz) rfl (fun z _=>by cases z<;>rfl) (fun _ _ _ _ _=>rfl)
    have hy':Loose P ops bs i oi ((st.new x).put dj (.ptr st.nx 0)) d y:=hy.imp (fun h=>DY.put (s:=(st.new x).hide bs) (hy1 h) _ (a3 dj hdj)) (fun ⟨h,b⟩=>⟨(h.new fr x).put _ (a3 dj hdj),b⟩)
    refine ⟨oj',_,h2,.a h3 hd3,?_⟩
    refine ih (listed.setIfInBounds j true) ((st.new x).put dj (.ptr st.nx 0)) d y (cl.set hj) ((fr.new x).put _ _) hfree' (ready_mono hr (Ne.symm hji)) hy' ?_
    rw [Array.setIfInBounds_comm _ _ hji]
    exact cH.eq hL f _ _ _ (StEq2.comm (st.new x) hne y _) h4
   | @s b x hb hlt h3 =>
    obtain ⟨l1,l2⟩:=ix (a1 d hdi)
    rcases hy with hy|⟨_,hbar⟩
    rotate_left
    ·have:=up_listed cl 8 oj' (hbar j oj' hoj h3.2.1) hall
     rw [getD_both (mem_ready.1 hr).1] at this;cases this
    refine ⟨oj',_,h2,.s hb hlt (h3.of rfl rfl rfl (fun z hz=>ev_put (l1 z hz))),?_⟩
    refine ih (listed.setIfInBounds j true) (st.set b x) d y (cl.set hj) (fr.set hlt x) hfree' (ready_mono hr (Ne.symm hji)) (Or.inl (hy.of rfl (fun b' z hz=>?_) rfl (fun z _=>by cases z<;>rfl) (fun _ _ _ _ _=>rfl))) ?_
    ·rw [f9] at hz ⊢
     by_cases hm:b'∈bs
     ·rw [if_pos hm] at hz;cases hz
     ·rw [if_neg hm] at hz ⊢
      rw [H_set,if_neg (fun e=>hm (by rw [← e];exact hb))];exact hz
    ·rw [Array.setIfInBounds_comm _ _ hji]
     exact h4
theorem DG4.wp {base:Nat} {w0:W0} {st st':St} {M:Wd} {a:Act} {i:Nat} {o:Oper} {K:Act→World→Prop} {Q':Exit→Act→World→Prop} (hi:ops[i]?=some o) (h:DG4 P ops bs o st st') (hs:Sim base w0 st M a)
  (hK:∀ M' a',Ext M M'→Sim base w0 st' M' a'→K a' M'.w):wpOp P ops Q' i K a M.w:=by
 cases h with
 | q h=>exact h.wp hi hs hK
 | @a d x h hd =>
  obtain ⟨g,hdst,hrun⟩:=h
  obtain ⟨u,c,arr,t,e1,e2,e3⟩:=hrun st base w0 M a hs
  unfold wpOp
  simp only [hi]
  rw [if_pos (by simp [Region.wanted,g])]
  refine .inl ?_
  unfold Oper.wp
  rw [e1]
  have:=hK (M.new st x c (.cells arr t)) (a.put o.dst u) (hs.extNew x c _) (by rw [hdst];exact e2.put hd e3)
  exact this
 | @s b x hb hlt h =>
  have hl:=h.2.2 st rfl rfl rfl (fun _ _=>rfl) base w0 M a hs
  have hw:Region.wanted o (yielded ops a.tmps)=true:=by simp [Region.wanted,h.1]
  unfold wpList at hl
  rw [if_pos hw] at hl
  unfold wpOp
  simp only [hi]
  rw [if_pos hw]
  rcases hl with hl|⟨_,a',w',M',st',_,_,_,hf⟩
  ·refine .inl (eY (fun a' w' hk=>?_) (fun e a' w' hne hq=>?_) hl)
   ·obtain ⟨M',st',e1,e2,e3,e4⟩:=hk
    subst e1
    have e4:st'=_:=e4
    subst e4
    exact hK M' a' e3 e2
   ·obtain ⟨M',st',e1,e2,e3,e4⟩:=hq
    cases e<;>first|exact absurd rfl hne|exact e4.elim
  ·exact hf.elim
theorem gp {base:Nat} {w0:W0} {M0:Wd} {Q:Exit→St→Prop} (hL:∀ listed st M a,L listed st→Sim base w0 st M a→Ext M0 M→wpAny P .any ops (bN base w0 M0 Q) 0 listed a M.w) :
  ∀ (f:Nat) (listed:Array Bool) (st:St) (M:Wd) (a:Act),Sim base w0 st M a→Ext M0 M→cH P ops bs L f listed st→wpAny P .any ops (bN base w0 M0 Q) f listed a M.w
 | 0,listed,st,M,a,hs,he,h=>hL _ _ _ _ h hs he
 | f+1,listed,st,M,a,hs,he,h=>by
  refine ⟨fun h0=>absurd h0 h.1,fun i hi=>?_⟩
  obtain ⟨o,st',h1,h2,h3⟩:=h.2 i hi
  exact h2.wp h1 hs fun M' a' hext hs'=>gp hL f _ _ M' a' hs' (he.trans hext) h3
def endsV (P:Program) (ops:Array Oper) (Q:Exit→St→Prop):Array Bool→St→Prop:=fun listed st=>Region.ready .any ops listed=[]∧aP P ops Q [] st
def bZ:List Nat→Array Bool→Array Bool
 | [],listed=>listed
 | i::is,listed=>bZ is (listed.setIfInBounds i true)
theorem endsV_eq {Q:Exit→St→Prop}:∀ listed s t,StEq2 s t→endsV P ops Q listed s→endsV P ops Q listed t:=fun _ _ _ e hh=>⟨hh.1,fun base w0 M a hs'=>hh.2 base w0 M a (e.symm.sim hs')⟩
theorem DAny4_ord {k:Nat} {Q:Exit→St→Prop} {hp:List (Nat×Option AB)}:∀ (is:List Nat) (listed:Array Bool) (st:St),st.heap=hp→Cl ops listed→Fr st→i0 .any ops (fun _=>true) is listed=true →
  bW P ops (fun s=>cH P ops bs (endsV P ops Q) k (bZ is listed) { s with heap:=hp }) (pk ops.toList is) (st.hide bs)→cH P ops bs (endsV P ops Q) (is.length+k) listed st
 | [],listed,st,hhp,_,_,_,h=>by
  rw [List.length_nil,Nat.zero_add]
  have h:cH P ops bs (endsV P ops Q) k listed { st.hide bs with heap:=hp }:=h
  rw [← hhp] at h
  exact h
 | i::is,listed,st,hhp,cl,fr,hB,h=>by
  unfold i0 at hB
  simp only [Bool.and_eq_true] at hB
  obtain ⟨⟨hr,hf⟩,hB'⟩:=hB
  have hr':i∈Region.ready .any ops listed:=by simpa using hr
  obtain ⟨_,o,h0,_⟩:=mem_ready.1 hr'
  rw [iJ (by simpa using h0)] at h
  obtain ⟨d,y,hy,hK⟩:=h
  have:=DAny4_first h0 endsV_eq (fun listed' st' hL=>hL.1) (is.length+k) listed st d y cl fr (Region.free_spec h0 hf) hr' (Or.inl hy)
   (DAny4_ord is _ (st.put d y) hhp (cl.set hr') (fr.put _ _) hB' hK)
  rw [List.length_cons,show is.length+1+k=is.length+k+1 by omega]
  exact this
def barB (ops:Array Oper) (i:Nat):Bool:=ops.toList.all fun o=>o.dst.isSome || upB ops 8 i o
theorem bar_of {i:Nat} (h:barB ops i=true):∀ (k:Nat) (ok:Oper),ops[k]?=some ok→ok.dst=none→upB ops 8 i ok=true:=by
 intro k ok hk hd
 have hm:ok∈ops.toList:=by
  obtain ⟨hl,he⟩:=Array.getElem?_eq_some_iff.1 hk
  rw [← he];exact Array.getElem_mem_toList hl
 have:=List.all_eq_true.1 h ok hm
 rw [hd] at this
 simpa using this
theorem DAny4_ord1 {k:Nat} {Q:Exit→St→Prop} {E:St→Prop} {rest:Array Bool→Bool} {hp:List (Nat×Option AB)}:∀ (is:List Nat) (listed:Array Bool) (st:St),(∀ st,Cl ops (bZ is listed)→Fr st→st.heap=hp→rest (bZ is listed)=true→E st→cH P ops bs (endsV P ops Q) k (bZ is listed) st)→Cl ops listed→Fr st→st.heap=hp→is.all (barB ops)=true→i0 .any ops rest is listed=true →
  bW P ops E (pk ops.toList is) st→cH P ops bs (endsV P ops Q) (is.length+k) listed st
 | [],listed,st,hE,cl,fr,hhp,_,hB,h=>by
  rw [List.length_nil,Nat.zero_add]
  exact hE st cl fr hhp hB h
 | i::is,listed,st,hE,cl,fr,hhp,hb,hB,h=>by
  unfold i0 at hB
  simp only [Bool.and_eq_true] at hB
  obtain ⟨⟨hr,hf⟩,hB'⟩:=hB
  simp only [List.all_cons,Bool.and_eq_true] at hb
  have hr':i∈Region.ready .any ops listed:=by simpa using hr
  obtain ⟨_,o,h0,_⟩:=mem_ready.1 hr'
  rw [iJ (by simpa using h0)] at h
  obtain ⟨d,y,hy,hK⟩:=h
  have:=DAny4_first h0 endsV_eq (fun listed' st' hL=>hL.1) (is.length+k) listed st d y cl fr (Region.free_spec h0 hf) hr' (Or.inr ⟨hy,bar_of hb.1⟩)
   (DAny4_ord1 is _ (st.put d y) hE (cl.set hr') (fr.put _ _) hhp hb.2 hB' hK)
  rw [List.length_cons,show is.length+1+k=is.length+k+1 by omega]
  exact this
def drawVB (ops:Array Oper) (is js:List Nat) (k:Nat):Bool:=Region.noSelect ops && Nat.beq (is.length+(js.length+k)) ops.size && is.all (barB ops) && i0 .any ops (fun listed=>i0 .any ops (fun _=>true) js listed) is (Array.replicate ops.size false)
theorem aw_drawV {id:Nat} {l:List Oper} {Q:Exit→St→Prop} {nn nx:Nat} {env:List (Nat×AV)} {heap:List (Nat×Option AB)} {gl:List (Nat×List CV)} [m:Mixed P] (bs is js:List Nat) (k:Nat) (listed0:Array Bool) (hB:drawVB l.toArray is js k=true) (h0:listed0=bZ js (bZ is (Array.replicate l.length false))) (hf:frB heap nx=true)
  (h:bW P l.toArray (fun s=>bW P l.toArray (fun s=>cH P l.toArray bs (endsV P l.toArray Q) k listed0 { s with heap:=heap }) (pk l js) { s with heap:=bs.map (fun b=>(b,none))++heap }) (pk l is) ⟨nn,env,heap,nx,gl⟩):gf P (.region id l.toArray true) Q ⟨nn,env,heap,nx,gl⟩:=by
 simp only [drawVB,Bool.and_eq_true] at hB
 obtain ⟨⟨⟨hsel,hlen⟩,hbar⟩,hord⟩:=hB
 have hlen:=cu hlen
 intro base w0 M a hs
 subst h0
 have hsz:l.length=l.toArray.size:=by simp
 rw [hsz] at h
 have H:=DAny4_ord1 (P:=P) (ops:=l.toArray) (bs:=bs) (k:=js.length+k) (Q:=Q) (hp:=heap) (rest:=fun listed=>i0 .any l.toArray (fun _=>true) js listed) (E:=fun s=>bW P l.toArray (fun s=>cH P l.toArray bs (endsV P l.toArray Q) k (bZ js (bZ is (Array.replicate l.toArray.size false))) { s with heap:=heap }) (pk l js) { s with heap:=bs.map (fun b=>(b,none))++heap }) is _ ⟨nn,env,heap,nx,gl⟩
  (fun st cl fr hhp hB hE=>DAny4_ord (hp:=heap) js _ st hhp cl fr hB (by
   have e:st.hide bs={ st with heap:=bs.map (fun b=>(b,none))++heap }:=by unfold St.hide;rw [hhp]
   rw [e];exact hE)) (cl_0 _) (fr_of hf) rfl hbar hord h
 refine wp_region_any m.h ?_
 have:=gp (P:=P) (ops:=l.toArray) (bs:=bs) (base:=base) (w0:=w0) (M0:=M) (Q:=Q) (fun listed st' M' a' hL hs' he=>by
  have h1:=aM (fun e a w=>bN.ext he) _ _ _ (hL.2 base w0 M' a' hs')
  exact ⟨hL.1,h1⟩) (is.length+(js.length+k)) (Array.replicate l.toArray.size false) _ M.drew a hs.drew (Ext.drew M) H
 rw [hlen] at this
 exact this
theorem gT {nn nx:Nat} {env:List (Nat×AV)} {heap' heap2:List (Nat×Option AB)} {gl:List (Nat×List CV)} {E:St→Prop} {qs:List Oper} (h:bW P ops E qs ⟨nn,env,heap2,nx,gl⟩):bW P ops (fun s=>bW P ops E qs { s with heap:=heap2 }) [] ⟨nn,env,heap',nx,gl⟩:=h
section
variable {i nn nx k:Nat} {env:List (Nat×AV)} {heap:List (Nat×Option AB)} {gl:List (Nat×List CV)} {listed:Array Bool} {ty:TypeId} {pos:String} {af:Array Edge}
def D4 (P:Program) (ops:Array Oper) (bs:List Nat) (L:Array Bool→St→Prop) (k i:Nat) (listed:Array Bool) (st:St):Prop :=
 ∃ o st',ops[i]?=some o∧DG4 P ops bs o st st'∧cH P ops bs L k (listed.setIfInBounds i true) st'
theorem ds_nilV {heap':List (Nat×Option AB)} (h:cH P ops bs L k listed ⟨nn,env,heap,nx,gl⟩):bW P ops (fun s=>cH P ops bs L k listed { s with heap:=heap }) [] ⟨nn,env,heap',nx,gl⟩:=h
theorem ay {st:St} (is:List Nat) (hr:Region.ready .any ops listed=is) (hne:is.isEmpty=false) (h:∀ i∈is,D4 P ops bs L k i listed st):cH P ops bs L (k+1) listed st :=
 ⟨fun h0=>(by rw [hr] at h0;subst h0;cases hne),fun i hi=>h i (by rw [← hr];exact hi)⟩
theorem d4_none {st:St}:∀ i∈([]:List Nat),D4 P ops bs L k i listed st:=fun _ h=>by cases h
theorem d4_nil {Q:Exit→St→Prop} {st:St} (hr:Region.ready .any ops listed=[]) (h:aP P ops Q [] st):cH P ops bs (endsV P ops Q) 0 listed st:=⟨hr,h⟩
theorem d4_a {d:Nat} {t:TypeId} {zs:List Value} (hi:ops[i]?=some ⟨some d,.alloc t,ty,pos,af,none⟩) (I:ZeroT P t zs) (hd:Nat.blt d nn=true) (h:cH P ops bs L k (listed.setIfInBounds i true) ⟨nn,(d,.ptr nx 0)::env,(nx,some (.cells t (zs.map fun z=>.c (.v z))))::heap,nx+1,gl⟩):D4 P ops bs L k i listed ⟨nn,env,heap,nx,gl⟩ :=
 ⟨_,_,hi,.a (d:=d) (x:=.cells t (zs.map fun z=>.c (.v z))) (br (I:=I)) hd,h⟩
theorem d4_pa {x z:Operand} {t n' b off:Nat} {ag:Bool} {t':TypeId} {l ys:List AV} (hi:ops[i]?=some ⟨none,.store t x z,ty,pos,af,none⟩) (I:TyC P t ag n') (hx:St.ev ⟨nn,env,heap,nx,gl⟩ x=some (.ptr b off)) (hz:St.ev ⟨nn,env,heap,nx,gl⟩ z=some (.agg ys)) (hc:ys.all AV.cellB=true) (h1:ys.length=n') (hH:St.H ⟨nn,env,heap,nx,gl⟩ b=some (.cells t' l)) (hl:Nat.ble (off+n') l.length=true) (hb:bs.contains b=true) (hlt:Nat.blt b nx=true)
  (h:cH P ops bs L k (listed.setIfInBounds i true) ⟨nn,env,(b,some (.cells t' (bA l ys off)))::heap,nx,gl⟩):D4 P ops bs L k i listed ⟨nn,env,heap,nx,gl⟩ :=
 ⟨_,_,hi,.s (b:=b) (x:=.cells t' (bA l ys off)) (by simpa using hb) (ba hlt) ⟨rfl,rfl,fun s e1 e2 e3 e4=>gF (l:=l) (t':=t') (st:=s) ((e4 x (by simp [Op.operands])).trans hx) ((e4 z (by simp [Op.operands])).trans hz) hc h1 (e3.trans hH) hl (ao_nil (dI rfl))⟩,h⟩
theorem d4_q {l:List Oper} {st:St} (hlt:Nat.blt i l.length=true) (h:bW P l.toArray (fun s=>cH P l.toArray bs L k (listed.setIfInBounds i true) s) (pk l [i]) st):D4 P l.toArray bs L k i listed st:=by
 have hlt:=ba hlt
 rw [iJ (List.getElem?_eq_getElem hlt)] at h
 obtain ⟨d,y,hy,hK⟩:=h
 exact ⟨_,_,by simp [hlt],.q hy,hK⟩
theorem ig {st:St} (h:cH P ops bs L k listed st):bW P ops (fun s=>cH P ops bs L k listed s) [] st:=h
theorem d4_p {x z:Operand} {t n' b off:Nat} {ag:Bool} {t':TypeId} {l:List AV} {y:AV} (hi:ops[i]?=some ⟨none,.store t x z,ty,pos,af,none⟩) (I:TyC P t ag n') (hx:St.ev ⟨nn,env,heap,nx,gl⟩ x=some (.ptr b off)) (hz:St.ev ⟨nn,env,heap,nx,gl⟩ z=some y) (hc:y.cellB=true) (h1:n'=1) (hH:St.H ⟨nn,env,heap,nx,gl⟩ b=some (.cells t' l)) (hl:Nat.blt off l.length=true) (hb:bs.contains b=true) (hlt:Nat.blt b nx=true)
  (h:cH P ops bs L k (listed.setIfInBounds i true) ⟨nn,env,(b,some (.cells t' (l.set off y)))::heap,nx,gl⟩):D4 P ops bs L k i listed ⟨nn,env,heap,nx,gl⟩ :=
 ⟨_,_,hi,.s (b:=b) (x:=.cells t' (l.set off y)) (by simpa using hb) (ba hlt) ⟨rfl,rfl,fun s e1 e2 e3 e4=>iN (l:=l) (t':=t') (st:=s) ((e4 x (by simp [Op.operands])).trans hx) ((e4 z (by simp [Op.operands])).trans hz) hc h1 (e3.trans hH) hl (ao_nil (dI rfl))⟩,h⟩
end
end
end Go.Proofs.YtdndfncpglfdeaaGreatDoor.Ev

namespace Go.Proofs.YtdndfncpglfdeaaGreatDoor.Ev
set_option linter.unusedVariables false
set_option linter.unusedSimpArgs false
open Go.RowKit
section
variable {P:Program} {ops:Array Oper} {n:Nat}
def NStep (P:Program) (ops:Array Oper) (o:Oper) (st:St) (d:Nat) (x:AB) (mk:Nat→AV):Prop :=
 o.guard=none∧o.dst=some d∧∀ s:St,s.n=st.n→s.gl=st.gl→(∀ z∈o.op.operands,s.ev z=st.ev z)→aP P ops (only (fun s'=>StEq2 s' ((s.new x).put d (mk s.nx)))) [o] s
theorem NStep.of {o:Oper} {s t:St} {d:Nat} {x:AB} {mk:Nat→AV} (h:NStep P ops o s d x mk) (hn:s.n=t.n) (hg:s.gl=t.gl) (hev:∀ z∈o.op.operands,s.ev z=t.ev z):NStep P ops o t d x mk :=
 ⟨h.1,h.2.1,fun u e1 e2 e4=>h.2.2 u (e1.trans hn.symm) (e2.trans hg.symm) (fun z hz=>(e4 z hz).trans (hev z hz).symm)⟩
inductive DG5 (P:Program) (ops:Array Oper) (bs:List Nat) (o:Oper) (st:St):St→Prop
 | q {d:Nat} {y:AV} (h:DY P ops o st d y):DG5 P ops bs o st (st.put d y)
 | s {b:Nat} {x:AB} (hb:b∈bs) (hlt:b < st.nx) (h:SStep P ops o st b x):DG5 P ops bs o st (st.set b x)
 | a {d:Nat} {x:AB} (h:AOp P o d x) (hd:Nat.blt d st.n=true):DG5 P ops bs o st ((st.new x).put d (.ptr st.nx 0))
 | n {d:Nat} {x:AB} {mk:Nat→AV} (h:NStep P ops o st d x mk):DG5 P ops bs o st ((st.new x).put d (mk st.nx))
variable {bs:List Nat}
theorem DG5.eq {o:Oper} {s t s':St} (h:DG5 P ops bs o s s') (e:StEq2 s t):∃ t',DG5 P ops bs o t t'∧StEq2 s' t':=by
 cases h with
 | q h=>exact ⟨_,.q (h.eq2 e),e.put _ _⟩
 | s hb hlt h=>exact ⟨_,.s hb (by rw [← e.nx];exact hlt) (h.of e.n e.gl (e.H _) (fun z _=>e.ev z)),e.set _ _⟩
 | a h hd=>exact ⟨_,.a h (by rw [← e.n];exact hd),by rw [e.nx];exact (e.new _).put _ _⟩
 | n h=>exact ⟨_,.n (h.of e.n e.gl (fun z _=>e.ev z)),by rw [e.nx];exact (e.new _).put _ _⟩
def DAny5 (P:Program) (ops:Array Oper) (bs:List Nat) (L:Array Bool→St→Prop):Nat→Array Bool→St→Prop
 | 0,listed,st=>L listed st
 | f+1,listed,st=>Region.ready .any ops listed≠[]∧∀ i∈Region.ready .any ops listed,∃ o st',ops[i]?=some o∧DG5 P ops bs o st st'∧DAny5 P ops bs L f (listed.setIfInBounds i true) st'
variable {L:Array Bool→St→Prop}
theorem DAny5.eq (hL:∀ listed s t,StEq2 s t→L listed s→L listed t):∀ (f:Nat) (listed:Array Bool) (s t:St),StEq2 s t→DAny5 P ops bs L f listed s→DAny5 P ops bs L f listed t
 | 0,listed,s,t,e,h=>hL listed s t e h
 | f+1,listed,s,t,e,h=>⟨h.1,fun i hi=>by
  obtain ⟨o,s',h2,h3,h4⟩:=h.2 i hi
  obtain ⟨t',h5,h6⟩:=h3.eq e
  exact ⟨o,t',h2,h5,DAny5.eq hL f _ _ _ h6 h4⟩⟩
theorem DG5.wp {base:Nat} {w0:W0} {st st':St} {M:Wd} {a:Act} {i:Nat} {o:Oper} {K:Act→World→Prop} {Q':Exit→Act→World→Prop} (hi:ops[i]?=some o) (h:DG5 P ops bs o st st') (hs:Sim base w0 st M a)
  (hK:∀ M' a',Ext M M'→Sim base w0 st' M' a'→K a' M'.w):wpOp P ops Q' i K a M.w:=by
 cases h with
 | q h=>exact h.wp hi hs hK
 | @a d x h hd =>
  obtain ⟨g,hdst,hrun⟩:=h
  obtain ⟨u,c,arr,t,e1,e2,e3⟩:=hrun st base w0 M a hs
  unfold wpOp
  simp only [hi]
  rw [if_pos (by simp [Region.wanted,g])]
  refine .inl ?_
  unfold Oper.wp
  rw [e1]
  have:=hK (M.new st x c (.cells arr t)) (a.put o.dst u) (hs.extNew x c _) (by rw [hdst];exact e2.put hd e3)
  exact this
 | @n d x mk h =>
  have hl:=h.2.2 st rfl rfl (fun _ _=>rfl) base w0 M a hs
  have hw:Region.wanted o (yielded ops a.tmps)=true:=by simp [Region.wanted,h.1]
  unfold wpList at hl
  rw [if_pos hw] at hl
  unfold wpOp
  simp only [hi]
  rw [if_pos hw]
  rcases hl with hl|⟨_,a',w',M',st',_,_,_,hf⟩
  ·refine .inl (eY (fun a' w' hk=>?_) (fun e a' w' hne hq=>?_) hl)
   ·obtain ⟨M',st',e1,e2,e3,e4⟩:=hk
    subst e1
    have e4:StEq2 st' _:=e4
    exact hK M' a' e3 (e4.sim e2)
   ·obtain ⟨M',st',e1,e2,e3,e4⟩:=hq
    cases e<;>first|exact absurd rfl hne|exact e4.elim
  ·exact hf.elim
 | @s b x hb hlt h =>
  have hl:=h.2.2 st rfl rfl rfl (fun _ _=>rfl) base w0 M a hs
  have hw:Region.wanted o (yielded ops a.tmps)=true:=by simp [Region.wanted,h.1]
  unfold wpList at hl
  rw [if_pos hw] at hl
  unfold wpOp
  simp only [hi]
  rw [if_pos hw]
  rcases hl with hl|⟨_,a',w',M',st',_,_,_,hf⟩
  ·refine .inl (eY (fun a' w' hk=>?_) (fun e a' w' hne hq=>?_) hl)
   ·obtain ⟨M',st',e1,e2,e3,e4⟩:=hk
    subst e1
    have e4:st'=_:=e4
    subst e4
    exact hK M' a' e3 e2
   ·obtain ⟨M',st',e1,e2,e3,e4⟩:=hq
    cases e<;>first|exact absurd rfl hne|exact e4.elim
  ·exact hf.elim
section
variable {i nn nx k:Nat} {env:List (Nat×AV)} {heap:List (Nat×Option AB)} {gl:List (Nat×List CV)} {listed:Array Bool} {ty:TypeId} {pos:String} {af:Array Edge}
end
end
end Go.Proofs.YtdndfncpglfdeaaGreatDoor.Ev

namespace Go.Proofs.YtdndfncpglfdeaaGreatDoor.Ev
set_option linter.unusedVariables false
set_option linter.unusedSimpArgs false
open Go.RowKit
section
variable {P:Program} {ops:Array Oper} {Q:Exit→St→Prop} {X:List Oper→St→Prop} {rest:List Oper} {d:Nat} {ty:TypeId} {pos:String} {af:Array Edge} {n:Nat} {env:List (Nat×AV)} {heap:List (Nat×Option AB)} {nx:Nat} {gl:List (Nat×List CV)}
class StrTy (P:Program) (t:Nat):Prop where
 h:P.underlying t=some .string
def bt (s:ByteArray) (k:Nat):Int:=((s.data.toList.getD k 0).toNat:Int)
theorem str_get (s:ByteArray) (k:Nat) (h:k < s.size):∃ b,s[k]?=some b∧(b.toNat:Int)=bt s k:=by
 refine ⟨s[k],getElem?_pos s k h,?_⟩
 unfold bt
 have h2:k < s.data.toList.length:=by simpa using h
 rw [List.getD_eq_getElem?_getD,List.getElem?_eq_getElem h2]
 rfl
theorem dm [W:Walk P X] {x:Operand} {t:TypeId} {s:ByteArray} [I:StrTy P t] (hx:St.ev ⟨n,env,heap,nx,gl⟩ x=some (.c (.v (.string s)))) (hd:Nat.blt d n=true) (h:X rest ⟨n,(d,.c (.v (.int .i64 (s.size:Int))))::env,heap,nx,gl⟩):X (⟨some d,.call ⟨.builtin .len,#[x],#[t]⟩,ty,pos,af,none⟩::rest) ⟨n,env,heap,nx,gl⟩:=by
 refine aY (st:=⟨n,env,heap,nx,gl⟩) rfl rfl hd (fun _ _ M e hs=>⟨.int .i64 (s.size:Int),?_,.c (.v _)⟩) h
 have hv:=(hs.ev (by simp [Op.operands,Call.operands]) hx).bool
 simp only [execOp,resolve,List.map_toArray,List.map_cons,List.map_nil,hv]
 simp [invoke,builtin,Builtin.len_,run_underlying I.h,goInt]
theorem fU [W:Walk P X] {x y:Operand} {t:TypeId} {s:ByteArray} {kk:IntKind} {idx:Int} [I:StrTy P t] (k:Nat) (hx:St.ev ⟨n,env,heap,nx,gl⟩ x=some (.c (.v (.string s)))) (hy:St.ev ⟨n,env,heap,nx,gl⟩ y=some (.c (.v (.int kk idx)))) (hk:idx=(k:Int)) (hlt:k < s.size) (hd:Nat.blt d n=true) (h:X rest ⟨n,(d,.c (.v (.int .u8 (bt s k))))::env,heap,nx,gl⟩):X (⟨some d,.index t x y,ty,pos,af,none⟩::rest) ⟨n,env,heap,nx,gl⟩:=by
 obtain ⟨b,h1,h2⟩:=str_get s k hlt
 refine aY (st:=⟨n,env,heap,nx,gl⟩) rfl rfl hd (fun _ _ M e hs=>⟨.int .u8 (bt s k),?_,.c (.v _)⟩) h
 simp only [execOp,(hs.ev (by simp [Op.operands,Call.operands]) hx).bool,(hs.ev (by simp [Op.operands,Call.operands]) hy).bool]
 subst hk
 simp [Instr.index,asIntOf,run_underlying I.h,h1,h2]
theorem r_eqstr [W:Walk P X] {x y:Operand} {t t2:TypeId} {a b:ByteArray} (hx:St.ev ⟨n,env,heap,nx,gl⟩ x=some (.c (.v (.string a)))) (hy:St.ev ⟨n,env,heap,nx,gl⟩ y=some (.c (.v (.string b)))) (hd:Nat.blt d n=true) (h:X rest ⟨n,(d,.c (.v (.bool (a.toList == b.toList))))::env,heap,nx,gl⟩):X (⟨some d,.binOp .eql t x y t2,ty,pos,af,none⟩::rest) ⟨n,env,heap,nx,gl⟩:=by
 refine aY (st:=⟨n,env,heap,nx,gl⟩) rfl rfl hd (fun _ _ M e hs=>⟨.bool (a.toList == b.toList),?_,.c (.v _)⟩) h
 simp only [execOp,(hs.ev (by simp [Op.operands,Call.operands]) hx).bool,(hs.ev (by simp [Op.operands,Call.operands]) hy).bool]
 rfl
theorem r_inF {f:FuncId} {fn:Func} {c:Code} {t nt:Nat} {cf:Operand} {args:List Operand} {tys:Array TypeId} {caps ys:List AV} {env':List (Nat×AV)} (hf:P.funcs[f]?=some fn) (hb:fn.body=some c) (hr:fn.results=#[.tmp t]) (hcall:bB P f=true) (hnt:fn.ntmps=nt) (hcf:St.ev ⟨n,env,heap,nx,gl⟩ cf=some (.fn f caps)) (hys:evs ⟨n,env,heap,nx,gl⟩ args=some ys) (hn:Nat.ble (ys++caps).length nt=true) (he:dl 0 (ys++caps)=env') (hd:Nat.blt d n=true)
  (h:gf P c (Back t gl (fun y heap nx=>aP P ops Q rest ⟨n,(d,y)::env,heap,nx,gl⟩)) ⟨nt,env',heap,nx,gl⟩):aP P ops Q (⟨some d,.call ⟨.value cf,args.toArray,tys⟩,ty,pos,af,none⟩::rest) ⟨n,env,heap,nx,gl⟩:=by
 subst hnt;subst he
 intro base w0 M a hs
 obtain ⟨e1,e2⟩:=dN hys
 have hn:=Nat.le_of_ble_eq_true hn
 have hfv:=hs.ev hcf
 generalize hev:a.eval cf=fv at hfv
 cases hfv with
 | fn hl hh =>
 rename_i vs
 have hsim:Sim base w0 ⟨fn.ntmps,dl 0 (ys++caps),heap,nx,gl⟩ M { tmps:=((args.map a.eval).toArray++vs)++Array.replicate (fn.ntmps - ((args.map a.eval).toArray++vs).size) undef,defers:=[] }:=by
  refine ⟨hs.H,hs.nx,by simp at hn ⊢;omega,fun i y hy=>?_,hs.gl,hs.heap,hs.below,hs.base,rfl,hs.old⟩
  obtain ⟨_,h1⟩:=eA (ys++caps) 0 i y hy
  rw [Nat.sub_zero] at h1
  rcases Nat.lt_or_ge i ys.length with hi|hi
  ·rw [List.getElem?_append_left hi] at h1
   have hi2:i < args.length:=by omega
   exact ⟨a.eval args[i],by simp [Array.getElem?_append,hi2],hs.ev (e2 i args[i] y (by simp [hi2]) h1)⟩
  ·rw [List.getElem?_append_right hi] at h1
   have hi2:i - ys.length < vs.size:=by have:=(List.getElem?_eq_some_iff.1 h1).1;omega
   refine ⟨vs[i - ys.length],?_,hh _ y _ h1 (by simp [hi2])⟩
   have e:args.length=ys.length:=by omega
   rw [Array.getElem?_append,if_pos (by simp;omega),Array.getElem?_append,if_neg (by simp;omega)]
   simp only [List.size_toArray,List.length_map,e]
   exact Array.getElem?_eq_getElem hi2
 refine eS rfl (run_callf hcall a M.w hev) (R:=fun v w''=>wpList P ops (bN base w0 M Q) rest (a.put (some d) v) w'') (calls_of_wp hf hb ?_) (fun v w'' hR=>hR)
 refine Code.wp_mono ?_ (h base w0 M _ hsim)
 intro e a' w' ⟨M',s',h1,h2,h3,h4,h5,y,h6,h7⟩
 subst h1
 obtain ⟨v,g1,g2⟩:=h2.env t y h6
 have hres:(results fn a'.tmps).run P M'.w=.ok v M'.w:=by
  unfold results
  rw [hr]
  simp [Array.getD_eq_getD_getElem?,g1]
 have hd':=ba hd
 have hcaller:Sim base w0 ⟨n,(d,y)::env,s'.heap,s'.nx,gl⟩ M' (a.put (some d) v):=by
  refine ⟨h2.H,h2.nx,by show (a.tmps.setIfInBounds d v).size=_;rw [Array.size_setIfInBounds];exact hs.n,fun i z hz=>?_,fun g xs hg=>h2.gl g xs (by rw [h5];exact hg),h2.heap,h2.below,h2.base,by simpa [Act.put] using hs.defs,h2.old⟩
  rw [az] at hz
  by_cases hi:d=i
  ·subst hi
   rw [if_pos rfl] at hz
   simp only [Option.some.injEq] at hz;subst hz
   exact ⟨v,by simp [Act.put,hs.n,hd'],g2⟩
  ·rw [if_neg hi] at hz
   obtain ⟨u,q1,q2⟩:=hs.env i z hz
   exact ⟨u,by simp [Act.put,Array.getElem?_setIfInBounds_ne hi,q1],q2.mono h3⟩
 have hgoal:wpList P ops (bN base w0 M Q) rest (a.put (some d) v) M'.w:=aM (fun e a w=>bN.ext h3) _ _ _ (h7 base w0 M' _ hcaller)
 have:bodyPost P fn (fun e w''=>∃ v,e=.returned v∧wpList P ops (bN base w0 M Q) rest (a.put (some d) v) w'') e a' M'.w:=by
  rcases h4 with rfl|rfl
  ·exact ⟨h2.defs,v,hres,v,rfl,hgoal⟩
  ·exact ⟨h2.defs,v,hres,v,rfl,hgoal⟩
 exact this
end
end Go.Proofs.YtdndfncpglfdeaaGreatDoor.Ev

namespace Go.Proofs.YtdndfncpglfdeaaGreatDoor.Ev
set_option linter.unusedVariables false
set_option linter.unusedSimpArgs false
open Go.RowKit
section
variable {P:Program} {ops:Array Oper} {Q:Exit→St→Prop} {X:List Oper→St→Prop} {rest:List Oper} {d:Nat} {ty:TypeId} {pos:String} {af:Array Edge} {n:Nat} {env:List (Nat×AV)} {heap:List (Nat×Option AB)} {nx:Nat} {gl:List (Nat×List CV)}
def arrTB (P:Program) (t len:Nat):Bool :=
 match P.underlying t with
 | some (.array l e)=>match tyB P e with
  | some (false,s)=>l == len && s == 1
  | _=>false
 | _=>false
class ArrT (P:Program) (t:Nat) (len:outParam Nat):Prop where
 h:arrTB P t len=true
theorem dh [W:Walk P X] {x y:Operand} {t:TypeId} {len:Nat} {kk:IntKind} {idx:Int} {xs:List AV} {z:AV} [I:ArrT P t len] (k:Nat) (hx:St.ev ⟨n,env,heap,nx,gl⟩ x=some (.agg xs)) (hy:St.ev ⟨n,env,heap,nx,gl⟩ y=some (.c (.v (.int kk idx)))) (hk:idx=(k:Int)) (hlt:k < len) (hz:xs[k]?=some z) (hd:Nat.blt d n=true) (h:X rest ⟨n,(d,z)::env,heap,nx,gl⟩):X (⟨some d,.index t x y,ty,pos,af,none⟩::rest) ⟨n,env,heap,nx,gl⟩:=by
 refine aY (st:=⟨n,env,heap,nx,gl⟩) rfl rfl hd (fun _ _ M a hs=>?_) h
 have hv:=hs.ev (by simp [Op.operands,Call.operands]) hx
 have hw:=(hs.ev (by simp [Op.operands,Call.operands]) hy).bool
 have hI:=I.h
 unfold arrTB at hI
 split at hI
 ·rename_i l e hu
  split at hI
  ·rename_i s ht
   simp only [Bool.and_eq_true,beq_iff_eq] at hI
   obtain ⟨rfl,rfl⟩:=hI
   obtain ⟨dd,ii,g1,g2,g3,g4⟩:=TyC.out (P:=P) (t:=e) ⟨ht⟩
   generalize he:a.eval x=u at hv
   cases hv with
   | agg hl hh =>
    rename_i vs
    have hl2:k < vs.size:=by rw [← hl];exact (List.getElem?_eq_some_iff.1 hz).1
    refine ⟨vs[k],?_,hh _ z _ hz (by simp [hl2])⟩
    have hagg:(isAgg e).run P M.w=.ok false M.w:=by
     unfold isAgg
     rw [Sem.run_bind,run_underlying g1 M.w]
     cases dd<;>simp_all
    simp only [execOp,he,hw]
    subst hk
    have hsz:(sizeOf e).run P M.w=.ok 1 M.w:=by
     rw [← g4]
     simp [sizeOf,typeInfo,g3]
    simp [Instr.index,asIntOf,run_underlying hu,part,hagg,hsz,hlt,hl2]
  ·cases hI
 ·cases hI
end
end Go.Proofs.YtdndfncpglfdeaaGreatDoor.Ev

namespace Go.Proofs.YtdndfncpglfdeaaGreatDoor.Ev
set_option linter.unusedVariables false
set_option linter.unusedSimpArgs false
open Go.RowKit
section
variable {P:Program} {ops:Array Oper} {Q:Exit→St→Prop} {X:List Oper→St→Prop} {rest:List Oper} {d:Nat} {ty:TypeId} {pos:String} {af:Array Edge} {n:Nat} {env:List (Nat×AV)} {heap:List (Nat×Option AB)} {nx:Nat} {gl:List (Nat×List CV)}
def arrbB (P:Program) (t:Nat):Option (List (Nat×Nat)×List Value) :=
 match P.info? t,P.underlying t with
 | some it,some (.array len e)=>match it.zero,P.info? e with
  | some z,some ie=>some ((List.range len).map (fun i=>(i * ie.size,ie.size)),z.cells.toList)
  | _,_=>none
 | _,_=>none
class ArrB (P:Program) (t:Nat) (pl:outParam (List (Nat×Nat))) (zs:outParam (List Value)):Prop where
 h:arrbB P t=some (pl,zs)
theorem fill_mono {f g:Nat→Option (Nat×Nat)} (hfg:∀ i x,f i=some x→g i=some x):∀ (parts:List (Nat×Value)) (cells res:Array Value),Instr.fill f cells parts=some res→Instr.fill g cells parts=some res
 | [],_,_,h=>h
 | (i,v)::rest,cells,res,h=>by
  unfold Instr.fill at h ⊢
  cases hf:f i with
  | none=>rw [hf] at h;cases h
  | some p =>
   rw [hf] at h
   rw [hfg i p hf]
   dsimp only at h ⊢
   split
   ·rename_i hc;rw [if_pos hc] at h;cases h
   ·rename_i hc;rw [if_neg hc] at h;exact fill_mono hfg rest _ res h
theorem dL [W:Walk P X] {t:TypeId} {parts:List (Nat×Operand)} {pl:List (Nat×Nat)} {zs:List Value} {ps:List (Nat×AV)} {out:List AV} [I:ArrB P t pl zs] (hp:evp ⟨n,env,heap,nx,gl⟩ parts=some ps) (hf:fillA pl (zs.map fun z=>.c (.v z)) ps=some out) (hd:Nat.blt d n=true) (h:X rest ⟨n,(d,(.agg out))::env,heap,nx,gl⟩):X (⟨some d,.build t parts.toArray,ty,pos,af,none⟩::rest) ⟨n,env,heap,nx,gl⟩:=by
 refine aY (st:=⟨n,env,heap,nx,gl⟩) rfl rfl hd (fun _ _ M a hs=>?_) h
 have hI:=I.h
 unfold arrbB at hI
 split at hI
 ·rename_i it len e hi hu
  split at hI
  ·rename_i z ie hz he
   simp only [Option.some.injEq,Prod.mk.injEq] at hI
   obtain ⟨rfl,rfl⟩:=hI
   obtain ⟨e1,e2⟩:=evp_get hp
   obtain ⟨res,f1,f2,f3⟩:=fill_sound (M:=M) _ ps _ z.cells (parts.map fun q=>(q.1,a.eval q.2)) out hf (by simp) (fun i x u hx hu'=>by
    simp only [List.getElem?_map,Array.getElem?_toList,hu',Option.map_some,Option.some.injEq] at hx
    subst hx;exact .c (.v _)) (by simp [e1]) (fun i p q hp' hq'=>by
     obtain ⟨q0,h1,rfl⟩:∃ q0,parts[i]?=some q0∧(q0.1,a.eval q0.2)=q:=by simpa using hq'
     obtain ⟨h2,h3⟩:=e2 i p q0 hp' h1
     exact ⟨h2,hs.ev (by simp only [Op.operands];simp;exact ⟨q0.1,List.mem_of_getElem? h1⟩) h3⟩)
   refine ⟨.agg res,?_,.agg f2 f3⟩
   have f4:=fill_mono (g:=fun i=>some (i * ie.size,ie.size)) (fun i x hx=>by
    rw [List.getElem?_toArray,List.getElem?_map] at hx
    obtain ⟨k,hk,rfl⟩:=Option.map_eq_some_iff.1 hx
    obtain ⟨hk1,hk2⟩:=List.getElem?_eq_some_iff.1 hk
    rw [List.getElem_range] at hk2;subst hk2;rfl) _ _ _ f1
   simp only [execOp]
   rw [Sem.run_bind,run_build M.w t _ res (by simp only [Program.built,hi,hu,hz,he,List.map_toArray];exact f4)];rfl
  ·cases hI
 ·cases hI
end
end Go.Proofs.YtdndfncpglfdeaaGreatDoor.Ev

namespace Go.Proofs.YtdndfncpglfdeaaGreatDoor.Ev
set_option linter.unusedVariables false
set_option linter.unusedSimpArgs false
open Go.RowKit
section
variable {P:Program} {X:List Oper→St→Prop} {rest:List Oper} {d:Nat} {ty:TypeId} {pos:String} {af:Array Edge} {n:Nat} {env:List (Nat×AV)} {heap:List (Nat×Option AB)} {nx:Nat} {gl:List (Nat×List CV)}
end
end Go.Proofs.YtdndfncpglfdeaaGreatDoor.Ev

namespace Go.Proofs.YtdndfncpglfdeaaGreatDoor.Ev
set_option linter.unusedVariables false
set_option linter.unusedSimpArgs false
open Go.RowKit
section
variable {P:Program} {ops:Array Oper} {Q:Exit→St→Prop} {st:St}
end
section
variable {P:Program} {ops:Array Oper} {Q:Exit→St→Prop} {X:List Oper→St→Prop} {rest:List Oper} {d:Nat} {ty:TypeId} {pos:String} {af:Array Edge} {n:Nat} {env:List (Nat×AV)} {heap:List (Nat×Option AB)} {nx:Nat} {gl:List (Nat×List CV)}
end
end Go.Proofs.YtdndfncpglfdeaaGreatDoor.Ev

namespace Go.Proofs.YtdndfncpglfdeaaGreatDoor.Ev
set_option linter.unusedVariables false
set_option linter.unusedSimpArgs false
open Go.RowKit
def refP:Nat→Value:=fun g=>.pointer (some ⟨g,0,none⟩)
inductive OA where
 | c (x:CV)
 | o (f:Nat→Value)
 | p
def OA.rel (F:Nat→Prop) (w:World) (g:Nat):OA→Value→Prop
 | .c x,u=>RC F w x u
 | .o f,u=>u=f g
 | .p,u=>u=refP g
def oaOf (b:Nat):AV→Option OA
 | .ptr b' off=>bif Nat.beq b b' && Nat.beq off 0 then some .p else none
 | .ref b' f=>bif Nat.beq b b' then some (.o f) else none
 | x=>(clF x).map .c
def oas (b:Nat):List AV→Option (List OA)
 | []=>some []
 | x::l=>match oaOf b x,oas b l with|some y,some ys=>some (y::ys)|_,_=>none
theorem oas_get {b:Nat}:∀ {xs:List AV} {ys:List OA},oas b xs=some ys→xs.length=ys.length∧∀ (i:Nat) (x:AV) (y:OA),xs[i]?=some x→ys[i]?=some y→oaOf b x=some y
 | [],ys,h=>by simp only [oas,Option.some.injEq] at h;subst h;exact ⟨rfl,fun i x y h=>by simp at h⟩
 | x::l,ys,h=>by
  simp only [oas] at h
  split at h
  ·rename_i y ys' h1 h2
   simp only [Option.some.injEq] at h;subst h
   obtain ⟨e1,e2⟩:=oas_get h2
   refine ⟨by simp [e1],fun i x' y' h3 h4=>?_⟩
   cases i with
   | zero=>simp at h3 h4;subst h3;subst h4;exact h1
   | succ i=>exact e2 i x' y' (by simpa using h3) (by simpa using h4)
  ·cases h
theorem clF_rc {M:Wd} {base:Nat} (hok:HeapOK M base) {y:AV} {u:Value} {z:CV} (h:RA M y u) (hz:clF y=some z):RC M.F M.w z u :=
 il hok (F':=M.F) (fun _ h=>h) (H:=fun _=>none) (fun b E s l h=>by cases h) h (clF_cl hz)
theorem oaOf_rel {M:Wd} {base:Nat} (hok:HeapOK M base) {b g:Nat} (hb:M.m b=.blk g) {x:AV} {u:Value} {y:OA} (h:RA M x u) (hy:oaOf b x=some y):y.rel M.F M.w g u:=by
 cases x with
 | ptr b' off =>
  simp only [oaOf] at hy
  cases hc:(Nat.beq b b' && Nat.beq off 0) with
  | false=>rw [hc] at hy;cases hy
  | true =>
   rw [hc] at hy
   simp only [cond_true,Option.some.injEq] at hy;subst hy
   simp only [Bool.and_eq_true] at hc
   obtain rfl:=cu hc.1
   obtain rfl:=cu hc.2
   cases h with
   | ptr h=>rw [hb] at h;cases h;rfl
 | ref b' f =>
  simp only [oaOf] at hy
  cases hc:Nat.beq b b' with
  | false=>rw [hc] at hy;cases hy
  | true =>
   rw [hc] at hy
   simp only [cond_true,Option.some.injEq] at hy;subst hy
   obtain rfl:=cu hc
   cases h with
   | ref h _=>rw [hb] at h;cases h;rfl
 | c x=>simp only [oaOf,clF,Option.map_some,Option.some.injEq] at hy;subst hy;exact clF_rc hok h rfl
 | agg xs =>
  simp only [oaOf,Option.map_eq_some_iff] at hy
  obtain ⟨z,hz,rfl⟩:=hy
  exact clF_rc hok h hz
 | tup xs =>
  simp only [oaOf,Option.map_eq_some_iff] at hy
  obtain ⟨z,hz,rfl⟩:=hy
  exact clF_rc hok h hz
 | vec b n=>simp [oaOf,clF] at hy
 | vptr b n off=>simp [oaOf,clF] at hy
 | eptr xs off=>simp [oaOf,clF] at hy
 | fn f xs=>simp [oaOf,clF] at hy
 | ghost b n v=>simp [oaOf,clF] at hy
def oF (w:World) (F fp fp':Nat→Prop) (w':World):Nat→Prop:=fun b=>F b∨(b < w'.heap.size∧¬ fp' b∧(fp b∨w.heap.size≤b))
structure OPost (w:World) (F fp:Nat→Prop) (g:Nat) (p':ObjP) (fp':Nat→Prop) (w':World):Prop where
 os:w'.os=w.os
 tape:w'.tape=w.tape
 output:w'.output=w.output
 size:w.heap.size≤w'.heap.size
 block:∀ k,k < w.heap.size→¬ fp k→w'.heap[k]?=w.heap[k]?
 holds:p'.holds (oF w F fp fp' w') w' g fp'
 root:fp' g
 lt:∀ k,fp' k→k < w'.heap.size∧(fp k∨w.heap.size≤k)
section
variable {base:Nat} {w0:W0} {st:St} {M:Wd} {a:Act}
def Wd.chg (M:Wd) (b:Nat) (p':ObjP) (fp':Nat→Prop) (w':World):Wd :=
 { m:=M.m,H:=fun k=>if b=k then some (.obj p') else M.H k,nx:=M.nx,F:=oF M.w M.F (M.fp b) fp' w',w:=w',fp:=fun k=>if k=b then fp' else M.fp k }
theorem Sim.chg (hs:Sim base w0 st M a) {b:Nat} {p p':ObjP} (hb:M.H b=some (.obj p)) {g:Nat} (hm:M.m b=.blk g) {fp':Nat→Prop} {w':World} (h:OPost M.w M.F (M.fp b) g p' fp' w') :
  Sim base w0 (st.set b (.obj p')) (M.chg b p' fp' w') a∧Ext M (M.chg b p' fp' w'):=by
 obtain ⟨g0,o1,o2,o3,o4,o5⟩:=hs.heap.obj b p hb
 rw [hm] at o1;cases o1
 let M':Wd:=M.chg b p' fp' w'
 have hH:∀ k,M'.H k=if b=k then some (.obj p') else M.H k:=fun k=>rfl
 have hne:∀ k,M'.H k≠none→M.H k≠none:=fun k hk=>by
  rw [hH] at hk
  by_cases h:b=k
  ·subst h;rw [hb];simp
  ·rwa [if_neg h] at hk
 have hold:∀ k,b≠k→∀ x,M'.H k=some x→M.H k=some x:=fun k hk x hx=>by rwa [hH,if_neg hk] at hx
 have hF:∀ k,M.F k→oF M.w M.F (M.fp b) fp' w' k∧w'.heap[k]?=M.w.heap[k]?:=fun k hk=>⟨Or.inl hk,h.block k (hs.heap.frz k hk) (fun hf=>(o4 k hf).2.2 hk)⟩
 have hext:Ext M M':=⟨fun _ _ h=>h,fun k E size' l' _ hl=>by
  rw [hH] at hl
  by_cases h:b=k
  ·rw [if_pos h] at hl;cases hl
  ·rw [if_neg h] at hl;exact ⟨l',hl,Nat.le_refl _,fun _=>rfl⟩,Nat.le_refl _,hF⟩
 have hblk:∀ k,b≠k→M.H k≠none→∀ q,(M.m k).block=some q→w'.heap[q]?=M.w.heap[q]?∧¬ oF M.w M.F (M.fp b) fp' w' q∨M.F q:=fun k hk hn q hq=>by
  by_cases hf:M.F q
  ·exact Or.inr hf
  ·have hlt:=fM hs.heap hn hq
   refine Or.inl ⟨h.block q hlt (fun hfp=>(o5 k q (Ne.symm hk) hfp).1 hn hq),fun hh=>?_⟩
   rcases hh with hh|hh
   ·exact hf hh
   ·rcases hh.2.2 with hh|hh
    ·exact (o5 k q (Ne.symm hk) hh).1 hn hq
    ·omega
 have hfpb:M'.fp b=fp':=by simp [M',Wd.chg]
 have hfpk:∀ k,b≠k→M'.fp k=M.fp k:=fun k hk=>by simp [M',Wd.chg,Ne.symm hk]
 refine ⟨⟨funext fun k=>by rw [H_set,← hs.H];exact hH k,hs.nx,hs.n,fun i y hy=>?_,fun g xs hg=>(hs.gl g xs hg).mono hext,⟨?_,?_,?_,?_,hs.heap.fresh,?_,?_⟩,?_,Nat.le_trans hs.base h.size,hs.defs,fun k hk hlt=>?_⟩,hext⟩
 ·obtain ⟨u,h1,h2⟩:=hs.env i y hy
  exact ⟨u,h1,h2.mono hext⟩
 ·intro k t l hl
  have hk:b≠k:=fun e=>by rw [hH,if_pos e] at hl;cases hl
  have hl:=hold k hk _ hl
  obtain ⟨g',arr,e1,e2,e3,e4,e5,e6⟩:=hs.heap.cells k t l hl
  rcases hblk k hk (by rw [hl];simp) g' (by rw [e1];rfl) with ⟨h1,h2⟩|h1
  ·exact ⟨g',arr,e1,e2,h2,h1.trans e4,e5,fun i x u hx hu=>(e6 i x u hx hu).mono hext⟩
  ·exact absurd h1 e3
 ·intro k E size l hl
  have hk:b≠k:=fun e=>by rw [hH,if_pos e] at hl;cases hl
  have hl:=hold k hk _ hl
  obtain ⟨v,n,cs,e1,e2,e3,e4,e5,e6⟩:=hs.heap.vec k E size l hl
  have hq:∀ q,v.ownBlock=some q→w'.heap[q]?=M.w.heap[q]?∧¬ oF M.w M.F (M.fp b) fp' w' q:=fun q hq=>by
   rcases hblk k hk (by rw [hl];simp) q (by rw [e1];exact hq) with h1|h1
   ·exact h1
   ·exact absurd h1 (e6 q hq)
  refine ⟨v,n,cs,e1,e2,e3,?_,fun i y u h1 h2=>(e5 i y u h1 h2).mono hF,fun q hv=>(hq q hv).2⟩
  obtain ⟨f1,f2⟩:=e4
  refine ⟨f1,?_⟩
  rcases f2 with f2|⟨g',cap,cur,rfl,g1,g2,g3⟩
  ·exact Or.inl f2
  ·exact Or.inr ⟨g',cap,cur,rfl,g1,(hq g' rfl).1.trans g2,g3⟩
 ·intro k k' g hkk hk hk'
  exact hs.heap.sep k k' g hkk (hne k hk) (hne k' hk')
 ·exact fun k hk=>hs.heap.lt k (hne k hk)
 ·intro k hk
  show k < w'.heap.size
  rcases hk with hk|hk
  ·have:=hs.heap.frz k hk;have:=h.size;omega
  ·exact hk.1
 ·intro k q hq
  by_cases hk:b=k
  ·subst hk
   rw [hH,if_pos rfl] at hq
   simp only [Option.some.injEq,AB.obj.injEq] at hq;subst hq
   refine ⟨g,hm,by rw [hfpb];exact h.root,by rw [hfpb];exact h.holds,fun k hk=>?_,fun b' k hbb hk=>⟨fun hb'=>?_,fun p2 hp2=>?_⟩⟩
   ·rw [hfpb] at hk
    obtain ⟨h1,h2⟩:=h.lt k hk
    refine ⟨?_,h1,fun hf=>?_⟩
    ·rcases h2 with h2|h2
     ·exact (o4 k h2).1
     ·exact Nat.le_trans hs.base h2
    ·rcases hf with hf|hf
     ·rcases h2 with h2|h2
      ·exact (o4 k h2).2.2 hf
      ·have:=hs.heap.frz k hf;omega
     ·exact hf.2.1 hk
   ·rw [hfpb] at hk
    obtain ⟨_,h2⟩:=h.lt k hk
    intro hc
    rcases h2 with h2|h2
    ·exact (o5 b' k hbb h2).1 (hne b' hb') hc
    ·have:=fM hs.heap (hne b' hb') hc;omega
   ·rw [hfpb] at hk
    rw [hfpk b' (Ne.symm hbb)]
    have hp2:=hold b' (Ne.symm hbb) _ hp2
    obtain ⟨_,h2⟩:=h.lt k hk
    intro hc
    rcases h2 with h2|h2
    ·exact (o5 b' k hbb h2).2 p2 hp2 hc
    ·obtain ⟨_,_,_,_,r4,_⟩:=hs.heap.obj b' p2 hp2
     have:=(r4 k hc).2.1;omega
  ·have hq:=hold k hk _ hq
   obtain ⟨g',e1,e2,e3,e4,e5⟩:=hs.heap.obj k q hq
   have hnfp:∀ c,M.fp k c→¬ M.fp b c:=fun c hc=>(e5 b c hk hc).2 p hb
   rw [hfpk k hk]
   refine ⟨g',e1,e2,q.stable _ _ _ _ _ _ e3 hF (fun c hc=>h.block c (e4 c hc).2.1 (hnfp c hc)),fun c hc=>⟨(e4 c hc).1,Nat.lt_of_lt_of_le (e4 c hc).2.1 h.size,fun hf=>?_⟩,fun b' c hbb hc=>⟨fun hb'=>(e5 b' c hbb hc).1 (hne b' hb'),fun p2 hp2=>?_⟩⟩
   ·rcases hf with hf|hf
    ·exact (e4 c hc).2.2 hf
    ·rcases hf.2.2 with hf|hf
     ·exact hnfp c hc hf
     ·have:=(e4 c hc).2.1;omega
   ·by_cases hb':b=b'
    ·subst hb'
     rw [hfpb]
     intro hf
     rcases (h.lt c hf).2 with h2|h2
     ·exact hnfp c hc h2
     ·have:=(e4 c hc).2.1;omega
    ·rw [hfpk b' hb']
     exact (e5 b' c hbb hc).2 p2 (hold b' hb' _ hp2)
 ·refine ⟨h.os.trans hs.below.os,h.tape.trans hs.below.tape,h.output.trans hs.below.output,Nat.le_trans hs.below.size h.size,fun k hk=>?_⟩
  show w'.heap[k]?=_
  have hb1:=hs.base
  rw [h.block k (by omega) (fun hf=>by have:=(o4 k hf).1;omega)]
  exact hs.below.block k hk
 ·rcases hk with hk|hk
  ·exact hs.old k hk hlt
  ·rcases hk.2.2 with hk|hk
   ·have:=(o4 k hk).1;omega
   ·have:=hs.base;omega
theorem Sim.changeO (hs:Sim base w0 st M a) {b:Nat} {p p':ObjP} (hb:M.H b=some (.obj p)) {g:Nat} (hm:M.m b=.blk g) {fp':Nat→Prop} {w':World} (h:OPost M.w M.F (M.fp b) g p' fp' w') :
  ∃ M',M'.w=w'∧M'.F=oF M.w M.F (M.fp b) fp' w'∧Sim base w0 (st.set b (.obj p')) M' a∧Ext M M' :=
 ⟨_,rfl,rfl,(hs.chg hb hm h).1,(hs.chg hb hm h).2⟩
end
section
variable {P:Program} {ops:Array Oper} {Q:Exit→St→Prop} {rest:List Oper} {st:St} {d:Nat} {ty:TypeId} {pos:String} {af:Array Edge}
end
end Go.Proofs.YtdndfncpglfdeaaGreatDoor.Ev

namespace Go.Proofs.YtdndfncpglfdeaaGreatDoor.Ev
set_option linter.unusedVariables false
set_option linter.unusedSimpArgs false
open Go.RowKit
def avOf (b:Nat):OA→AV
 | .c x=>aZ x
 | .o f=>.ref b f
 | .p=>.ptr b 0
def nF (w:World) (F fp:Nat→Prop) (w':World):Nat→Prop:=fun b=>F b∨(w.heap.size≤b∧b < w'.heap.size∧¬ fp b)
structure NPost (w:World) (F:Nat→Prop) (g:Nat) (p:ObjP) (fp:Nat→Prop) (w':World):Prop where
 below:Below w.heap.size w w'
 holds:p.holds (nF w F fp w') w' g fp
 root:fp g
 lt:∀ k,fp k→w.heap.size≤k∧k < w'.heap.size
section
variable {base:Nat} {w0:W0} {st:St} {M:Wd} {a:Act}
theorem Sim.newO (hs:Sim base w0 st M a) {g:Nat} {p:ObjP} {fp:Nat→Prop} {w':World} (h:NPost M.w M.F g p fp w') :
  ∃ M',M'.w=w'∧M'.F=nF M.w M.F fp w'∧M'.m M.nx=.blk g∧Sim base w0 (st.new (.obj p)) M' a∧Ext M M':=by
 let M':Wd:={ m:=fun k=>if k=M.nx then .blk g else M.m k,H:=(st.new (.obj p)).H,nx:=M.nx+1,F:=nF M.w M.F fp w',w:=w',fp:=fun k=>if k=M.nx then fp else M.fp k }
 have hH:∀ k,M'.H k=if M.nx=k then some (.obj p) else M.H k:=fun k=>by
  show (st.new _).H k=_
  rw [fq,hs.nx,hs.H]
 have hm:M'.m M.nx=.blk g:=by simp [M']
 have hm':∀ k,M.nx≠k→M'.m k=M.m k:=fun k hk=>by simp [M',Ne.symm hk]
 have hfp:M'.fp M.nx=fp:=by simp [M']
 have hfp':∀ k,M.nx≠k→M'.fp k=M.fp k:=fun k hk=>by simp [M',Ne.symm hk]
 have hF:∀ k,M.F k→nF M.w M.F fp w' k∧w'.heap[k]?=M.w.heap[k]?:=fun k hk=>⟨Or.inl hk,h.below.block k (hs.heap.frz k hk)⟩
 have hext:Ext M M':=by
  refine ⟨fun b g' hb=>?_,fun k E size' l' hk hl=>?_,by simp [M'],hF⟩
  ·rw [hm' b (fun he=>hs.heap.fresh b (by omega) g' hb)];exact hb
  ·rw [hH,if_neg (by omega)] at hl
   exact ⟨l',hl,Nat.le_refl _,fun _=>hm' k (by omega)⟩
 have hnF:∀ k,k < M.w.heap.size→nF M.w M.F fp w' k→M.F k:=fun k hk hf=>by
  rcases hf with hf|hf
  ·exact hf
  ·omega
 refine ⟨M',rfl,rfl,hm,⟨rfl,by show M.nx+1=st.nx+1;rw [hs.nx],hs.n,fun i y hy=>?_,fun g xs hg=>(hs.gl g xs hg).mono hext,⟨?_,?_,?_,?_,?_,?_,?_⟩,hs.below.trans (h.below.mono hs.base),Nat.le_trans hs.base h.below.size,hs.defs,fun k hk hlt=>?_⟩,hext⟩
 ·obtain ⟨u,h1,h2⟩:=hs.env i y hy
  exact ⟨u,h1,h2.mono hext⟩
 ·intro k t l hl
  have hk:M.nx≠k:=fun e=>by rw [hH,if_pos e] at hl;cases hl
  rw [hH,if_neg hk] at hl
  obtain ⟨g',arr,e1,e2,e3,e4,e5,e6⟩:=hs.heap.cells k t l hl
  have hlt:=(Array.getElem?_eq_some_iff.1 e4).1
  exact ⟨g',arr,by rw [hm' k hk];exact e1,e2,fun hf=>e3 (hnF _ hlt hf),(h.below.block g' hlt).trans e4,e5,fun i x u hx hu=>(e6 i x u hx hu).mono hext⟩
 ·intro k E size l hl
  have hk:M.nx≠k:=fun e=>by rw [hH,if_pos e] at hl;cases hl
  rw [hH,if_neg hk] at hl
  obtain ⟨v,n,cs,e1,e2,e3,e4,e5,e6⟩:=hs.heap.vec k E size l hl
  have hlt:∀ q,v.ownBlock=some q→q < M.w.heap.size:=fun q hq=>(World.ownsRow.lt e4 q hq).2
  refine ⟨v,n,cs,by rw [hm' k hk];exact e1,e2,e3,?_,fun i y u h1 h2=>(e5 i y u h1 h2).mono hF,fun q hq hf=>e6 q hq (hnF _ (hlt q hq) hf)⟩
  obtain ⟨f1,f2⟩:=e4
  refine ⟨f1,?_⟩
  rcases f2 with f2|⟨g',cap,cur,rfl,g1,g2,g3⟩
  ·exact Or.inl f2
  ·exact Or.inr ⟨g',cap,cur,rfl,g1,(h.below.block g' (hlt g' rfl)).trans g2,g3⟩
 ·intro k k' q hkk hk hk' hq hq'
  rw [hH] at hk hk'
  by_cases h1:M.nx=k
  ·subst h1
   rw [hm] at hq
   simp only [Conc.block,Option.some.injEq] at hq;subst hq
   rw [if_neg hkk] at hk'
   rw [hm' k' hkk] at hq'
   have:=fM hs.heap hk' hq'
   have:=(h.lt _ h.root).1;omega
  ·rw [if_neg h1] at hk
   rw [hm' k h1] at hq
   by_cases h2:M.nx=k'
   ·subst h2
    rw [hm] at hq'
    simp only [Conc.block,Option.some.injEq] at hq';subst hq'
    have:=fM hs.heap hk hq
    have:=(h.lt _ h.root).1;omega
   ·rw [if_neg h2] at hk'
    rw [hm' k' h2] at hq'
    exact hs.heap.sep k k' q hkk hk hk' hq hq'
 ·intro k hk
  rw [hH] at hk
  show k < M.nx+1
  by_cases h1:M.nx=k
  ·omega
  ·rw [if_neg h1] at hk
   have:=hs.heap.lt k hk;omega
 ·intro k hk g'
  have hk:M.nx+1≤k:=hk
  rw [hm' k (by omega)]
  exact hs.heap.fresh k (by omega) g'
 ·intro k hk
  show k < w'.heap.size
  rcases hk with hk|hk
  ·have:=hs.heap.frz k hk;have:=h.below.size;omega
  ·exact hk.2.1
 ·intro k q hq
  rw [hH] at hq
  by_cases hk:M.nx=k
  ·subst hk
   rw [if_pos rfl] at hq
   simp only [Option.some.injEq,AB.obj.injEq] at hq;subst hq
   refine ⟨g,hm,by rw [hfp];exact h.root,by rw [hfp];exact h.holds,fun c hc=>?_,fun b' c hbb hc=>⟨fun hb'=>?_,fun p2 hp2=>?_⟩⟩
   ·rw [hfp] at hc
    obtain ⟨h1,h2⟩:=h.lt c hc
    refine ⟨Nat.le_trans hs.base h1,h2,fun hf=>?_⟩
    rcases hf with hf|hf
    ·have:=hs.heap.frz c hf;omega
    ·exact hf.2.2 hc
   ·rw [hfp] at hc
    rw [hH,if_neg (Ne.symm hbb)] at hb'
    rw [hm' b' (Ne.symm hbb)]
    intro hq
    have:=fM hs.heap hb' hq
    have:=(h.lt c hc).1;omega
   ·rw [hfp] at hc
    rw [hH,if_neg (Ne.symm hbb)] at hp2
    rw [hfp' b' (Ne.symm hbb)]
    intro hf
    obtain ⟨_,_,_,_,r4,_⟩:=hs.heap.obj b' p2 hp2
    have:=(r4 c hf).2.1
    have:=(h.lt c hc).1;omega
  ·rw [if_neg hk] at hq
   obtain ⟨g',e1,e2,e3,e4,e5⟩:=hs.heap.obj k q hq
   rw [hfp' k hk]
   refine ⟨g',by rw [hm' k hk];exact e1,e2,q.stable _ _ _ _ _ _ e3 hF (fun c hc=>h.below.block c (e4 c hc).2.1),fun c hc=>⟨(e4 c hc).1,Nat.lt_of_lt_of_le (e4 c hc).2.1 h.below.size,fun hf=>(e4 c hc).2.2 (hnF _ (e4 c hc).2.1 hf)⟩,fun b' c hbb hc=>⟨fun hb'=>?_,fun p2 hp2=>?_⟩⟩
   ·by_cases h2:M.nx=b'
    ·subst h2
     rw [hm]
     intro hg
     simp only [Conc.block,Option.some.injEq] at hg;subst hg
     have:=(h.lt _ h.root).1
     have:=(e4 _ hc).2.1;omega
    ·rw [hH,if_neg h2] at hb'
     rw [hm' b' h2]
     exact (e5 b' c hbb hc).1 hb'
   ·by_cases h2:M.nx=b'
    ·subst h2
     rw [hfp]
     intro hf
     have:=(h.lt c hf).1
     have:=(e4 c hc).2.1;omega
    ·rw [hfp' b' h2]
     rw [hH,if_neg h2] at hp2
     exact (e5 b' c hbb hc).2 p2 hp2
 ·rcases hk with hk|hk
  ·exact hs.old k hk hlt
  ·have:=hs.base;omega
end
section
variable {P:Program} {ops:Array Oper} {Q:Exit→St→Prop} {rest:List Oper} {st:St} {d:Nat} {ty:TypeId} {pos:String} {af:Array Edge}
theorem avOf_ra {M:Wd} {g b:Nat} (hm:M.m b=.blk g) {x:OA} {u:Value} (h:x.rel M.F M.w g u) (ho:∀ fn,x=.o fn→u.oneCell'=true):RA M (avOf b x) u:=by
 cases x with
 | c x =>
  have h:RC M.F M.w x u:=h
  cases x with
  | agg xs=>exact RA.ofC (x:=.agg xs) h
  | _=>exact .c h
 | o f=>cases (show u=f g from h);exact .ref hm (ho f rfl)
 | p=>cases (show u=refP g from h);exact .ptr hm
end
end Go.Proofs.YtdndfncpglfdeaaGreatDoor.Ev

namespace Go.Proofs.YtdndfncpglfdeaaGreatDoor.Ev
set_option linter.unusedVariables false
set_option linter.unusedSimpArgs false
open Go.RowKit
section
variable {P:Program} {ops:Array Oper} {Q:Exit→St→Prop} {X:List Oper→St→Prop} {rest:List Oper} {d:Nat} {ty:TypeId} {pos:String} {af:Array Edge} {n:Nat} {env:List (Nat×AV)} {heap:List (Nat×Option AB)} {nx:Nat} {gl:List (Nat×List CV)}
def u8C (b:UInt8):List CV:=[.v (.int .u8 (b.toNat:Int))]
instance:EncL u8C 1:=⟨fun _=>rfl,by decide,fun _=>rfl⟩
class BytesT (P:Program) (t:Nat):Prop where
 h:∃ e,P.underlying t=some (.slice e)∧P.underlying e=some (.int .u8)
end
end Go.Proofs.YtdndfncpglfdeaaGreatDoor.Ev

namespace Go.Proofs.YtdndfncpglfdeaaGreatDoor.Ev
set_option linter.unusedVariables false
set_option linter.unusedSimpArgs false
open Go.RowKit
class ConcT (P:Program) (t:Nat):Prop where
 h:P.concrete t=true
class MethT (P:Program) (t:Nat) (name:String) (f:outParam Nat):Prop where
 h:∀ (w:World) (g:Nat),(method (P.types.size+Made.depth) t (.pointer (some ⟨g,0,none⟩)) name).run P w=.ok (f,.pointer (some ⟨g,0,none⟩)) w
section
variable {P:Program} {ops:Array Oper} {Q:Exit→St→Prop} {X:List Oper→St→Prop} {rest:List Oper} {d:Nat} {ty:TypeId} {pos:String} {af:Array Edge} {n:Nat} {env:List (Nat×AV)} {heap:List (Nat×Option AB)} {nx:Nat} {gl:List (Nat×List CV)}
end
end Go.Proofs.YtdndfncpglfdeaaGreatDoor.Ev

namespace Go.Proofs.YtdndfncpglfdeaaGreatDoor.Ev
set_option linter.unusedVariables false
set_option linter.unusedSimpArgs false
open Go.RowKit
section
variable {P:Program} {X:List Oper→St→Prop} {rest:List Oper} {d:Nat} {ty:TypeId} {pos:String} {af:Array Edge} {n:Nat} {env:List (Nat×AV)} {heap:List (Nat×Option AB)} {nx:Nat} {gl:List (Nat×List CV)}
end
end Go.Proofs.YtdndfncpglfdeaaGreatDoor.Ev

namespace Go.Proofs.YtdndfncpglfdeaaGreatDoor.Ev
set_option linter.unusedVariables false
set_option linter.unusedSimpArgs false
open Go.RowKit
def frameP (w:World) (ff:Nat→Prop):ObjP where
 holds:=fun _ w' _ fp=>(∀ k,fp k↔ff k)∧∀ k,ff k→w'.heap[k]?=w.heap[k]?
 stable:=fun _ _ _ _ _ _ h _ hk=>⟨h.1,fun k hf=>(hk k ((h.1 k).2 hf)).trans (h.2 k hf)⟩
def OConE {Γ:Type} (P:Program) (gl:List (Nat×List CV)) (f:FuncId) (args:List OA) (p:ObjP) (r:Γ→CV) (p':Γ→ObjP):Prop :=
 bB P f=true∧∀ (w:World) (F fp:Nat→Prop) (g:Nat) (vals:Array Value),(∀ b,F b→b < w.heap.size)→GlOK gl F w→p.holds F w g fp→fp g→(∀ k,fp k→k < w.heap.size∧¬ F k)→args.length=vals.size→(∀ (i:Nat) (x:OA) (u:Value),args[i]?=some x→vals[i]?=some u→x.rel F w g u) →
  Calls P f vals w fun e w'=>∃ γ v fp',e=.returned v∧OPost w F fp g (p' γ) fp' w'∧RC (oF w F fp fp' w') w' (r γ) v
section
variable {P:Program} {base:Nat} {w0:W0} {st:St} {M:Wd} {a:Act} {F':Nat→Prop}
theorem res1_runV (hs:Sim base w0 st M a) (hF:∀ b,M.F b→F' b) (hvec:∀ b E s l,st.H b=some (.vec E s l)→M.H b=some (.vec E s l)∧∀ g,(M.m b).block=some g→F' g) {v:ResultVar} {r:CV} (h:Res1 P st v r) :
  ∃ u,(res1 a v).run P M.w=.ok u M.w∧RC F' M.w r u:=by
 cases h with
 | tmp h hc =>
  rename_i t y
  obtain ⟨u,h1,h2⟩:=hs.env t y h
  exact ⟨u,by simp [res1,Array.getD_eq_getD_getElem?,h1],il hs.heap hF hvec h2 hc⟩
 | cell_s I h hH hy hc =>
  rename_i ad t b off n t' l y
  obtain ⟨u,h1,h2⟩:=hs.env ad _ h
  cases h2 with
  | ptr hm =>
   rename_i g
   obtain ⟨g',arr,e1,_,_,e4,e5,e6⟩:=hs.heap.cells b t' l (by rw [hs.H];exact hH)
   rw [hm] at e1;cases e1
   have hlt:off < arr.size:=by rw [← e5];exact (List.getElem?_eq_some_iff.1 hy).1
   refine ⟨arr[off],?_,il hs.heap hF hvec (e6 off y _ hy (by simp [hlt])) hc⟩
   have:=iC I M.w ⟨g,off,none⟩ arr[off] (by simp [World.cell?,e4,hlt])
   simp only [Instr.loadAt,Instr.sureAddr,Sem.run_bind,Sem.run_pure,Result.andThen_ok] at this
   simp [res1,Array.getD_eq_getD_getElem?,h1,asAddr,this]
 | cell_a I h hH hy hn hc =>
  rename_i ad t b off n t' l ys rs
  obtain ⟨u,h1,h2⟩:=hs.env ad _ h
  cases h2 with
  | ptr hm =>
   rename_i g
   obtain ⟨g',arr,e1,_,_,e4,e5,e6⟩:=hs.heap.cells b t' l (by rw [hs.H];exact hH)
   rw [hm] at e1;cases e1
   have hln:((arr.toList.drop off).take n).length=n:=by
    have:((l.drop off).take n).length=n:=by rw [hy];exact hn
    simp only [List.length_take,List.length_drop,Array.length_toList] at this ⊢
    rw [← e5];exact this
   have hRA:RA M (.agg ys) (.agg ((arr.toList.drop off).take n).toArray):=by
    refine .agg (by rw [hn];simpa using hln.symm) (fun i y u hy' hu=>?_)
    subst hy
    have hi:i < n:=by have:=(List.getElem?_eq_some_iff.1 hy').1;omega
    rw [List.getElem?_take_of_lt hi,List.getElem?_drop] at hy'
    rw [List.getElem?_toArray,List.getElem?_take_of_lt hi,List.getElem?_drop,Array.getElem?_toList] at hu
    exact e6 _ y u hy' hu
   refine ⟨_,?_,il hs.heap hF hvec hRA (cl_agg hc)⟩
   have:=run_load_a I M.w g off ((arr.toList.drop off).take n) hln (fun j v hv=>by
    have hj:j < n:=by have:=(List.getElem?_eq_some_iff.1 hv).1;omega
    rw [List.getElem?_take_of_lt hj,List.getElem?_drop,Array.getElem?_toList] at hv
    simp [World.cell?,e4,hv])
   simp only [Instr.loadAt,Instr.sureAddr,Sem.run_bind,Sem.run_pure,Result.andThen_ok] at this
   simp [res1,Array.getD_eq_getD_getElem?,h1,asAddr,this]
theorem resL_runV (hs:Sim base w0 st M a) (hF:∀ b,M.F b→F' b) (hvec:∀ b E s l,st.H b=some (.vec E s l)→M.H b=some (.vec E s l)∧∀ g,(M.m b).block=some g→F' g):∀ {vs:List ResultVar} {rs:List CV},ResL P st vs rs →
  ∃ us:List Value,(vs.mapM (res1 a)).run P M.w=.ok us M.w∧us.length=vs.length∧rs.length=us.length∧∀ (i:Nat) (r:CV) (u:Value),rs[i]?=some r→us[i]?=some u→RC F' M.w r u
 | _,_,.nil=>⟨[],by simp,rfl,rfl,fun i r u h=>by simp at h⟩
 | _,_,.cons h hs'=>by
  obtain ⟨u,h1,h2⟩:=res1_runV hs hF hvec h
  obtain ⟨us,h3,h4,h5,h6⟩:=resL_runV hs hF hvec hs'
  refine ⟨u::us,?_,by simp [h4],by simp [h5],fun i r u' h7 h8=>?_⟩
  ·rw [List.mapM_cons,Sem.run_bind,h1]
   simp only [Result.andThen_ok,Sem.run_bind,h3,Sem.run_pure]
  ·cases i with
   | zero=>simp at h7 h8;subst h7;subst h8;exact h2
   | succ i=>exact h6 i r u' (by simpa using h7) (by simpa using h8)
theorem results_runV {fn:Func} (hs:Sim base w0 st M a) (hF:∀ b,M.F b→F' b) (hvec:∀ b E s l,st.H b=some (.vec E s l)→M.H b=some (.vec E s l)∧∀ g,(M.m b).block=some g→F' g) {r:CV} {e:Exit} (h:Ret P fn.results.toList r e st) :
  ∃ v,(results fn a.tmps).run P M.w=.ok v M.w∧RC F' M.w r v:=by
 have hconv:∀ us:List Value,(fn.results.toList.mapM (res1 a)).run P M.w=.ok us M.w→(results fn a.tmps).run P M.w=.ok (if h:us.toArray.size=1 then us.toArray[0] else .tuple us.toArray) M.w:=by
  intro us hu
  unfold results
  have hmap:Sem.run P (fn.results.mapM (res1 a)) M.w=Result.ok us.toArray M.w:=by
   rw [Array.mapM_eq_mapM_toList,map_eq_pure_bind,Sem.run_bind,hu];rfl
  change Sem.run P (fn.results.mapM (res1 a) >>= fun vs=>pure (if h:vs.size=1 then vs[0] else .tuple vs)) M.w=_
  rw [Sem.run_bind,hmap];rfl
 obtain ⟨_,h⟩:=h
 rcases h with ⟨v,hv,h⟩|⟨hne,zs,rfl,h⟩
 ·obtain ⟨u,h1,h2⟩:=res1_runV hs hF hvec h
  refine ⟨u,?_,h2⟩
  have:=hconv [u] (by rw [hv,List.mapM_cons,Sem.run_bind,h1];simp)
  simpa using this
 ·obtain ⟨us,h1,h2,h3,h4⟩:=resL_runV hs hF hvec h
  refine ⟨.tuple us.toArray,?_,.tup (by simpa using h3) (fun i x u hx hu=>h4 i x u hx (by simpa using hu))⟩
  have:=hconv us h1
  rw [dif_neg (by simpa [h2] using hne)] at this
  exact this
end
def fk:Nat→List OA→List (Nat×AV)
 | _,[]=>[]
 | k,x::l=>(k,avOf 0 x)::fk (k+1) l
theorem argEnvO_get:∀ (l:List OA) (k i:Nat) (y:AV),bf i (fk k l)=some y→∃ x,k≤i∧l[i - k]?=some x∧y=avOf 0 x
 | [],k,i,y,h=>by simp [fk,bf] at h
 | x::l,k,i,y,h=>by
  rw [fk,az] at h
  split at h
  ·rename_i hk;subst hk;simp only [Option.some.injEq] at h;exact ⟨x,Nat.le_refl _,by simp,h.symm⟩
  ·obtain ⟨x',h1,h2,h3⟩:=argEnvO_get l (k+1) i y h
   refine ⟨x',by omega,?_,h3⟩
   rw [show i - k=(i - (k+1))+1 by omega]
   simpa using h2
def ORetE {Γ:Type} (P:Program) (rs:List ResultVar) (r:Γ→CV) (p':Γ→ObjP) (fr:Option AB):Exit→St→Prop :=
 fun e st=>∃ γ,Ret P rs (r γ) e st∧st.H 0=some (.obj (p' γ))∧bf 1 st.heap=some fr
def FrOK (fr:Option AB):Prop:=∀ x,fr=some x→∃ p,x=.obj p
theorem st_H1 {st:St} {fr:Option AB} (h:bf 1 st.heap=some fr):st.H 1=fr:=by
 unfold St.H;rw [h];cases fr<;>rfl
theorem oconE_of {Γ:Type} {P:Program} {gl:List (Nat×List CV)} {f:FuncId} {fn:Func} {c:Code} {args:List OA} {p:ObjP} {r:Γ→CV} {p':Γ→ObjP} (hf:P.funcs[f]?=some fn) (hb:fn.body=some c) (hcall:bB P f=true) (hn:Nat.ble args.length fn.ntmps=true) (ho:∀ x∈args,∀ h,x=.o h→∀ g,(h g).oneCell'=true)
  (h:∀ fr:Option AB,FrOK fr→gf P c (ORetE P fn.results.toList r p' fr) { n:=fn.ntmps,env:=fk 0 args,heap:=[(0,some (.obj p)),(1,fr)],nx:=2,gl:=gl }):OConE P gl f args p r p':=by
 refine ⟨hcall,fun w F fp g vals hF hgl hp hg hfp hl hv=>?_⟩
 have hle:=Nat.le_of_ble_eq_true hn
 refine calls_of_wp hf hb ?_
 let ff:Nat→Prop:=fun k=>k < w.heap.size∧¬ F k∧¬ fp k
 obtain ⟨fr,k0,hfr⟩:∃ (fr:Option AB) (k0:Nat),(fr=some (.obj (frameP w ff))∧ff k0)∨(fr=none∧∀ k,¬ ff k):=by
  rcases Classical.em (∃ k,ff k) with ⟨k,hk⟩|hk
  ·exact ⟨_,k,.inl ⟨rfl,hk⟩⟩
  ·exact ⟨none,0,.inr ⟨rfl,fun k h=>hk ⟨k,h⟩⟩⟩
 let M:Wd:={ m:=fun b=>if b=0 then .blk g else if b=1∧fr≠none then .blk k0 else .row undef,H:=St.H { n:=fn.ntmps,env:=fk 0 args,heap:=[(0,some (.obj p)),(1,fr)],nx:=2,gl:=gl },nx:=2,F:=F,w:=w,fp:=fun b=>if b=0 then fp else ff }
 have hm0:M.m 0=.blk g:=rfl
 have H0:M.H 0=some (.obj p):=rfl
 have H1:M.H 1=fr:=st_H1 rfl
 have H2:∀ b,2≤b→M.H b=none:=fun b hb=>by
  show St.H _ b=none
  unfold St.H
  simp only [az]
  rw [if_neg (by omega),if_neg (by omega)]
  rfl
 have hfr':∀ x,fr=some x→x=.obj (frameP w ff)∧ff k0∧M.m 1=.blk k0:=fun x hx=>by
  rcases hfr with ⟨h1,h2⟩|⟨h1,_⟩
  ·rw [h1] at hx;cases hx
   refine ⟨rfl,h2,?_⟩
   show (if (1:Nat)=0 then Conc.blk g else if (1:Nat)=1∧fr≠none then Conc.blk k0 else Conc.row undef)=Conc.blk k0
   rw [if_neg (by decide),if_pos ⟨rfl,by rw [h1];simp⟩]
  ·rw [h1] at hx;cases hx
 have hcase:∀ b x,M.H b=some x→(b=0∧x=.obj p)∨(b=1∧x=.obj (frameP w ff)∧ff k0∧M.m 1=.blk k0):=fun b x hx=>by
  match b with
  | 0=>rw [H0] at hx;cases hx;exact .inl ⟨rfl,rfl⟩
  | 1=>rw [H1] at hx;exact .inr ⟨rfl,hfr' x hx⟩
  | b+2=>rw [H2 _ (by omega)] at hx;cases hx
 have hfpff:∀ k,fp k→¬ ff k:=fun k h1 h2=>h2.2.2 h1
 have hsim:Sim 0 ⟨w,F⟩ { n:=fn.ntmps,env:=fk 0 args,heap:=[(0,some (.obj p)),(1,fr)],nx:=2,gl:=gl } M { tmps:=vals++Array.replicate (fn.ntmps - vals.size) undef,defers:=[] }:=by
  refine ⟨rfl,rfl,by simp;omega,fun i y hy=>?_,fun k xs hk=>?_,⟨fun b t l hb=>?_,fun b E s l hb=>?_,fun b b' q hbb hb hb' hq=>?_,fun b hb=>?_,fun b hb q hq=>?_,hF,fun b q hb=>?_⟩,⟨rfl,rfl,rfl,Nat.le_refl _,fun _ _=>rfl⟩,Nat.zero_le _,rfl,fun b _ h=>absurd h (Nat.not_lt_zero _)⟩
  ·obtain ⟨x,_,h1,rfl⟩:=argEnvO_get args 0 i y hy
   rw [Nat.sub_zero] at h1
   have hi:i < vals.size:=by have:=(List.getElem?_eq_some_iff.1 h1).1;omega
   have hrel:=hv i x vals[i] h1 (by simp [hi])
   refine ⟨vals[i],by simp [Array.getElem?_append,hi],avOf_ra hm0 hrel (fun h' e=>?_)⟩
   subst e
   rw [show vals[i]=h' g from hrel]
   exact ho _ (List.mem_of_getElem? h1) _ rfl g
  ·have:=hgl k xs hk
   generalize hq:Value.pointer (some ⟨k,0,none⟩)=q at this ⊢
   cases this with
   | eptr cs hF hcell hr=>exact .eptr cs hF hcell hr
  ·rcases hcase b _ hb with ⟨_,h⟩|⟨_,h,_⟩<;>cases h
  ·rcases hcase b _ hb with ⟨_,h⟩|⟨_,h,_⟩<;>cases h
  ·obtain ⟨x,hx⟩:=Option.ne_none_iff_exists'.1 hb
   obtain ⟨x',hx'⟩:=Option.ne_none_iff_exists'.1 hb'
   rcases hcase b x hx with ⟨rfl,_⟩|⟨rfl,_,h2,h3⟩<;>rcases hcase b' x' hx' with ⟨rfl,_⟩|⟨rfl,_,h4,h5⟩
   ·exact absurd rfl hbb
   ·rw [hm0] at hq;rw [h5]
    have hq:some g=some q:=hq
    cases hq
    intro hc
    have hc:some k0=some g:=hc
    cases hc
    exact hfpff _ hg h4
   ·rw [h3] at hq;rw [hm0]
    have hq:some k0=some q:=hq
    cases hq
    intro hc
    have hc:some g=some k0:=hc
    cases hc
    exact hfpff _ hg h2
   ·exact absurd rfl hbb
  ·show b < 2
   rcases Nat.lt_or_ge b 2 with h|h
   ·exact h
   ·exact absurd (H2 b h) hb
  ·have hb:2≤b:=hb
   have:M.m b=.row undef:=by
    show (if b=0 then Conc.blk g else if b=1∧fr≠none then Conc.blk k0 else Conc.row undef)=Conc.row undef
    rw [if_neg (by omega),if_neg (fun h=>by omega)]
   rw [this] at hq;cases hq
  ·rcases hcase b _ hb with ⟨rfl,h⟩|⟨rfl,h,h2,h3⟩
   ·cases h
    refine ⟨g,hm0,hg,hp,fun k hk=>⟨Nat.zero_le _,hfp k hk⟩,fun b' k hbb hk=>⟨fun hb' hq=>?_,fun p2 hp2 hq=>?_⟩⟩
    ·obtain ⟨x',hx'⟩:=Option.ne_none_iff_exists'.1 hb'
     rcases hcase b' x' hx' with ⟨rfl,_⟩|⟨rfl,_,h4,h5⟩
     ·exact hbb rfl
     ·rw [h5] at hq
      simp only [Conc.block,Option.some.injEq] at hq
      subst hq;exact hfpff _ hk h4
    ·have hq:(if b'=0 then fp else ff) k:=hq
     rw [if_neg hbb] at hq
     exact hfpff k hk hq
   ·cases h
    refine ⟨k0,h3,h2,⟨fun k=>Iff.rfl,fun _ _=>rfl⟩,fun k hk=>⟨Nat.zero_le _,hk.1,hk.2.1⟩,fun b' k hbb hk=>⟨fun hb' hq=>?_,fun p2 hp2 hq=>?_⟩⟩
    ·obtain ⟨x',hx'⟩:=Option.ne_none_iff_exists'.1 hb'
     rcases hcase b' x' hx' with ⟨rfl,_⟩|⟨rfl,_,h4,h5⟩
     ·rw [hm0] at hq
      simp only [Conc.block,Option.some.injEq] at hq
      subst hq;exact hfpff _ hg hk
     ·exact hbb rfl
    ·rcases hcase b' _ hp2 with ⟨rfl,_⟩|⟨rfl,_⟩
     ·exact hfpff k hq hk
     ·exact hbb rfl
 refine Code.wp_mono ?_ (h fr (fun x hx=>⟨_,(hfr' x hx).1⟩) _ _ _ _ hsim)
 intro e a' w' ⟨M',st',h1,h2,h3,γ,h4,h5,h6⟩
 subst h1
 obtain ⟨g',q1,q2,q3,q4,q5⟩:=h2.heap.obj 0 _ (by rw [h2.H];exact h5)
 have hg':g'=g:=by
  have:=h3.m 0 g hm0
  rw [q1] at this;cases this;rfl
 subst hg'
 have hFr:∀ k,ff k→M'.w.heap[k]?=w.heap[k]?∧¬ M'.F k∧¬ M'.fp 0 k∧∀ b,b≠1→M'.H b≠none→(M'.m b).block≠some k:=fun k hk=>by
  rcases hfr with ⟨hfr,_⟩|⟨_,hfr⟩
  ·obtain ⟨k1,r1,r2,r3,r4,r5⟩:=h2.heap.obj 1 (frameP w ff) (by rw [h2.H,st_H1 h6];exact hfr)
   have hk1:=(r3.1 k).2 hk
   exact ⟨r3.2 k hk,(r4 k hk1).2.2,(r5 0 k (by decide) hk1).2 _ (by rw [h2.H];exact h5),fun b hb hb'=>(r5 b k hb hk1).1 hb'⟩
  ·exact absurd hk (hfr k)
 have hold:∀ k,k < w.heap.size→F k∨fp k∨ff k:=fun k hk=>by
  rcases Classical.em (F k) with h|h
  ·exact .inl h
  ·rcases Classical.em (fp k) with h'|h'
   ·exact .inr (.inl h')
   ·exact .inr (.inr ⟨hk,h,h'⟩)
 have hoF:∀ b,M'.F b→oF w F fp (M'.fp 0) M'.w b:=fun b hb'=>by
  rcases Nat.lt_or_ge b w.heap.size with hc|hc
  ·rcases hold b hc with h|h|h
   ·exact .inl h
   ·exact .inr ⟨h2.heap.frz b hb',fun hf=>(q4 b hf).2.2 hb',.inl h⟩
   ·exact absurd hb' (hFr b h).2.1
  ·exact .inr ⟨h2.heap.frz b hb',fun hf=>(q4 b hf).2.2 hb',.inr hc⟩
 have hpost:OPost w F fp g' (p' γ) (M'.fp 0) M'.w:=by
  refine ⟨h2.below.os,h2.below.tape,h2.below.output,h2.below.size,fun k hk hnf=>?_,(p' γ).stable _ _ _ _ _ _ q3 (fun k hk=>⟨hoF k hk,rfl⟩) (fun _ _=>rfl),q2,fun k hk=>⟨(q4 k hk).2.1,?_⟩⟩
  ·rcases hold k hk with h|h|h
   ·exact (h3.F k h).2
   ·exact absurd h hnf
   ·exact (hFr k h).1
  ·rcases Nat.lt_or_ge k w.heap.size with h|h
   ·rcases hold k h with h|h|h
    ·exact absurd (h3.F k h).1 (q4 k hk).2.2
    ·exact .inl h
    ·exact absurd hk (hFr k h).2.2.1
   ·exact .inr h
 have hres:=results_runV (fn:=fn) h2 (F':=oF w F fp (M'.fp 0) M'.w) hoF (fun b E s l hb=>by
  rw [← h2.H] at hb
  refine ⟨hb,fun q hq=>?_⟩
  have hne:M'.H b≠none:=by rw [hb];simp
  obtain ⟨v,n,cs,e1,_,_,e4,_,e6⟩:=h2.heap.vec b E s l hb
  rw [e1] at hq
  have hlt:=(World.ownsRow.lt e4 q hq).2
  have hb0:b≠0:=fun e=>by rw [e,h2.H,h5] at hb;cases hb
  have hnf:¬ M'.fp 0 q:=fun hf=>(q5 b q hb0 hf).1 hne (by rw [e1];exact hq)
  rcases Nat.lt_or_ge q w.heap.size with hc|hc
  ·rcases hold q hc with h|h|h
   ·exact .inl h
   ·exact .inr ⟨hlt,hnf,.inl h⟩
   ·have hb1:b≠1:=fun e=>by
     rw [e,h2.H,st_H1 h6] at hb
     cases (hfr' _ hb).1
    exact absurd (by rw [e1];exact hq) ((hFr q h).2.2.2 b hb1 hne)
  ·exact .inr ⟨hlt,hnf,.inr hc⟩) h4
 obtain ⟨v,hrun,hrc⟩:=hres
 have hpost2:bodyPost P fn (fun e w'=>∃ γ v fp',e=.returned v∧OPost w F fp g' (p' γ) fp' w'∧RC (oF w F fp fp' w') w' (r γ) v) e a' M'.w:=by
  rcases h4.1 with rfl|rfl
  ·exact ⟨h2.defs,v,hrun,γ,v,_,rfl,hpost,hrc⟩
  ·exact ⟨h2.defs,v,hrun,γ,v,_,rfl,hpost,hrc⟩
 exact hpost2
section
variable {P:Program} {ops:Array Oper} {Q:Exit→St→Prop} {rest:List Oper} {st:St} {d:Nat} {ty:TypeId} {pos:String} {af:Array Edge}
theorem ao_callOE {Γ:Type} {f:FuncId} {args:List Operand} {tys:Array TypeId} {ys:List AV} {zs:List OA} {r:Γ→CV} {p:ObjP} {p':Γ→ObjP} (b:Nat) (hcon:OConE P st.gl f zs p r p') (hys:evs st args=some ys) (hz:oas b ys=some zs) (hb:st.H b=some (.obj p)) (hd:Nat.blt d st.n=true)
  (h:∀ γ,aP P ops Q rest ((st.set b (.obj (p' γ))).put d (ofC (r γ)))):aP P ops Q (⟨some d,.call ⟨.value (.func f),args.toArray,tys⟩,ty,pos,af,none⟩::rest) st:=by
 intro base w0 M a hs
 have hbM:M.H b=some (.obj p):=by rw [hs.H];exact hb
 obtain ⟨e1,e2⟩:=dN hys
 obtain ⟨e3,e4⟩:=oas_get hz
 obtain ⟨g,o1,o2,o3,o4,o5⟩:=hs.heap.obj b p hbM
 refine eS rfl (eQ hcon.1 a M.w) (R:=fun v w''=>∃ γ fp',OPost M.w M.F (M.fp b) g (p' γ) fp' w''∧RC (oF M.w M.F (M.fp b) fp' w'') w'' (r γ) v) (Calls.mono (hcon.2 M.w M.F (M.fp b) g _ hs.heap.frz (fun g xs hg=>?_) o3 o2 (fun k hk=>(o4 k hk).2) (by simp;omega) (fun i x u hx hu=>?_)) (fun e w'' ⟨γ,v,fp',he,hp,hrc⟩=>⟨v,he,γ,fp',hp,hrc⟩)) (fun v w'' hR=>?_)
 ·have:=hs.gl g xs hg
  generalize hq:Value.pointer (some ⟨g,0,none⟩)=q at this ⊢
  cases this with
  | eptr cs hF hcell hr=>exact .eptr cs hF hcell hr
 ·have hi:i < args.length:=by have:=(List.getElem?_eq_some_iff.1 hx).1;omega
  obtain ⟨y,hy⟩:∃ y,ys[i]?=some y:=⟨_,List.getElem?_eq_getElem (by omega)⟩
  have hev:=hs.ev (e2 i args[i] y (by simp [hi]) hy)
  have hu':a.eval args[i]=u:=by simpa [hi] using hu
  rw [hu'] at hev
  exact oaOf_rel hs.heap o1 hev (e4 i y x hy hx)
 ·obtain ⟨γ,fp',hp,hrc⟩:=hR
  obtain ⟨M',h1,h2,h3,h4⟩:=hs.changeO hbM o1 hp
  have:=h γ base w0 M' _ (h3.put hd (RA.ofC (M:=M') (by rw [h2,h1];exact hrc)))
  rw [← h1]
  exact aM (fun e a w=>bN.ext h4) _ _ _ this
end
end Go.Proofs.YtdndfncpglfdeaaGreatDoor.Ev

namespace Go.Proofs.YtdndfncpglfdeaaGreatDoor.Ev
set_option linter.unusedVariables false
set_option linter.unusedSimpArgs false
open Go.RowKit
section
variable {P:Program} {ops:Array Oper} {Q:Exit→St→Prop} {rest:List Oper} {d:Nat} {ty:TypeId} {pos:String} {af:Array Edge} {n:Nat} {env:List (Nat×AV)} {heap:List (Nat×Option AB)} {nx:Nat} {gl:List (Nat×List CV)}
end
end Go.Proofs.YtdndfncpglfdeaaGreatDoor.Ev

namespace Go.Proofs.YtdndfncpglfdeaaGreatDoor.Ev
set_option linter.unusedVariables false
set_option linter.unusedSimpArgs false
open Go.RowKit Go.MapKept
abbrev gO (k:Nat):Value:=.int .i64 (k:Int)
theorem natV_inj {a b:Nat} (h:gO a=gO b):a=b:=by cases h;rfl
structure MapIs (es:Array MapEntry) (f:Nat→Option Nat):Prop where
 nums:∀ e∈es.toList,∃ a b:Nat,e.key=gO a∧e.val=gO b
 nodup:(es.toList.map (·.key)).Nodup
 at_:∀ k v,f k=some v↔∃ e∈es.toList,e.key=gO k∧e.val=gO v
def updM (f:Nat→Option Nat) (b:Nat) (x:Option Nat):Nat→Option Nat:=fun k=>if k=b then x else f k
theorem nodup_get {es:List MapEntry} (h:(es.map (·.key)).Nodup) {i j:Nat} {x y:MapEntry} (hi:es[i]?=some x) (hj:es[j]?=some y) (he:x.key=y.key):i=j:=by
 have h1:(es.map (·.key))[i]?=some x.key:=by rw [List.getElem?_map,hi];rfl
 have h2:(es.map (·.key))[j]?=some x.key:=by rw [List.getElem?_map,hj,he];rfl
 exact (List.getElem?_inj (List.getElem?_eq_some_iff.1 h1).1 h).1 (h1.trans h2.symm)
theorem MapIs.push {es:Array MapEntry} {f:Nat→Option Nat} (h:MapIs es f) {k:Nat} (hk:∀ x∈es.toList,x.key≠gO k) (v clock:Nat):MapIs (es.push { key:=gO k,val:=gO v,born:=clock }) (updM f k (some v)):=by
 refine ⟨fun e he=>?_,?_,fun k' v'=>?_⟩
 ·rw [Array.toList_push,List.mem_append,List.mem_singleton] at he
  rcases he with he|rfl
  ·exact h.nums e he
  ·exact ⟨k,v,rfl,rfl⟩
 ·rw [Array.toList_push,List.map_append,List.nodup_append]
  refine ⟨h.nodup,by simp,fun x hx y hy e=>?_⟩
  simp at hy;subst hy;subst e
  obtain ⟨e,he,hek⟩:=List.mem_map.1 hx
  exact hk e he hek
 ·unfold updM
  rw [Array.toList_push]
  by_cases e:k'=k
  ·subst e
   rw [if_pos rfl]
   constructor
   ·intro hv;cases hv
    exact ⟨_,List.mem_append.2 (.inr (List.mem_singleton.2 rfl)),rfl,rfl⟩
   ·rintro ⟨x,hx,h1,h2⟩
    rcases List.mem_append.1 hx with hx|hx
    ·exact absurd h1 (hk x hx)
    ·rw [List.mem_singleton.1 hx] at h2
     rw [natV_inj h2]
  ·rw [if_neg e,h.at_]
   constructor
   ·rintro ⟨x,hx,h1,h2⟩;exact ⟨x,List.mem_append.2 (.inl hx),h1,h2⟩
   ·rintro ⟨x,hx,h1,h2⟩
    rcases List.mem_append.1 hx with hx|hx
    ·exact ⟨x,hx,h1,h2⟩
    ·rw [List.mem_singleton.1 hx] at h1
     exact absurd (natV_inj h1).symm e
theorem mem_get {es:List MapEntry} {x:MapEntry} (h:x∈es):∃ i:Nat,es[i]?=some x:=by
 obtain ⟨i,hi,e⟩:=List.mem_iff_getElem.1 h
 exact ⟨i,by rw [List.getElem?_eq_getElem hi,e]⟩
theorem MapIs.modify {es:Array MapEntry} {f:Nat→Option Nat} (h:MapIs es f) {k j:Nat} {e:MapEntry} (hj:es.toList[j]?=some e) (hk:e.key=gO k) (v:Nat):MapIs (es.modify j (fun e=>{ e with key:=gO k,val:=gO v })) (updM f k (some v)):=by
 have hget:∀ i,(es.modify j (fun e=>{ e with key:=gO k,val:=gO v })).toList[i]?=if j=i then some { e with key:=gO k,val:=gO v } else es.toList[i]?:=fun i=>by
  rw [Array.getElem?_toList,Array.getElem?_modify]
  by_cases hij:j=i
  ·subst hij
   rw [Array.getElem?_toList] at hj
   rw [if_pos rfl,if_pos rfl,hj];rfl
  ·rw [if_neg hij,if_neg hij,Array.getElem?_toList]
 have hmem:∀ x,x∈(es.modify j (fun e=>{ e with key:=gO k,val:=gO v })).toList↔x={ e with key:=gO k,val:=gO v }∨(x∈es.toList∧x.key≠gO k):=fun x=>by
  constructor
  ·intro hx
   obtain ⟨i,hi⟩:=mem_get hx
   rw [hget i] at hi
   by_cases hij:j=i
   ·rw [if_pos hij] at hi;cases hi;exact .inl rfl
   ·rw [if_neg hij] at hi
    exact .inr ⟨List.mem_of_getElem? hi,fun hk'=>hij (nodup_get h.nodup hj hi (hk.trans hk'.symm))⟩
  ·rintro (rfl|⟨hx,hne⟩)
   ·exact List.mem_of_getElem? (i:=j) (by rw [hget,if_pos rfl])
   ·obtain ⟨i,hi⟩:=mem_get hx
    refine List.mem_of_getElem? (i:=i) ?_
    rw [hget,if_neg (fun hij=>?_)]
    ·exact hi
    ·subst hij;rw [hj] at hi;cases hi;exact hne hk
 refine ⟨fun x hx=>?_,?_,fun k' v'=>?_⟩
 ·rcases (hmem x).1 hx with rfl|⟨hx,_⟩
  ·exact ⟨k,v,rfl,rfl⟩
  ·exact h.nums x hx
 ·rw [modify_keys j _ (fun e' he'=>by rw [Array.getElem?_toList] at hj;rw [hj] at he';cases he';exact hk.symm)]
  exact h.nodup
 ·unfold updM
  by_cases e:k'=k
  ·subst e
   rw [if_pos rfl]
   constructor
   ·intro hv;cases hv
    exact ⟨_,(hmem _).2 (.inl rfl),rfl,rfl⟩
   ·rintro ⟨x,hx,h1,h2⟩
    rcases (hmem x).1 hx with rfl|⟨_,hne⟩
    ·rw [natV_inj h2]
    ·exact absurd h1 hne
  ·rw [if_neg e,h.at_]
   constructor
   ·rintro ⟨x,hx,h1,h2⟩;exact ⟨x,(hmem x).2 (.inr ⟨hx,fun h3=>e (natV_inj (h1.symm.trans h3))⟩),h1,h2⟩
   ·rintro ⟨x,hx,h1,h2⟩
    rcases (hmem x).1 hx with rfl|⟨hx,_⟩
    ·exact absurd (natV_inj h1).symm e
    ·exact ⟨x,hx,h1,h2⟩
def mapTB (P:Program) (t k:Nat):Bool :=
 match P.underlying t with
 | some (.map k' e)=>k' == k && (match P.underlying k with|some (.int .i64)=>true|_=>false) && (match P.info? e with|some i=>(match i.zero with|some (.int .i64 0)=>true|_=>false)|none=>false)
 | _=>false
class MapT (P:Program) (t:Nat) (k:outParam Nat):Prop where
 h:mapTB P t k=true
theorem MapT.out {P:Program} {t k:Nat} (I:MapT P t k):∃ e,P.underlying t=some (.map k e)∧P.underlying k=some (.int .i64)∧∀ w,(zeroValue e).run P w=.ok (.int .i64 0) w:=by
 have h:=I.h
 unfold mapTB at h
 split at h
 ·rename_i k' e hu
  simp only [Bool.and_eq_true,beq_iff_eq] at h
  obtain ⟨⟨rfl,h2⟩,h3⟩:=h
  refine ⟨e,hu,?_,?_⟩
  ·split at h2
   ·assumption
   ·cases h2
  ·split at h3
   ·rename_i i hi
    split at h3
    ·rename_i hz
     intro w
     simp [zeroValue,typeInfo,hi,hz]
    ·cases h3
   ·cases h3
 ·cases h
section
variable {P:Program} {w:World} {g t kt:Nat} {es:Array MapEntry} {clock:Nat} {f:Nat→Option Nat}
end
section
variable {P:Program} {ops:Array Oper} {Q:Exit→St→Prop} {X:List Oper→St→Prop} {rest:List Oper} {d:Nat} {ty:TypeId} {pos:String} {af:Array Edge} {n:Nat} {env:List (Nat×AV)} {heap:List (Nat×Option AB)} {nx:Nat} {gl:List (Nat×List CV)}
end
end Go.Proofs.YtdndfncpglfdeaaGreatDoor.Ev

namespace Go.Proofs.YtdndfncpglfdeaaGreatDoor.Ev
set_option linter.unusedVariables false
set_option linter.unusedSimpArgs false
open Go.RowKit
section
variable {base:Nat} {w0:W0} {st:St} {M:Wd} {a:Act}
end
end Go.Proofs.YtdndfncpglfdeaaGreatDoor.Ev
