/- Ev66 Ev67 Ev68 Ev69 Ev70: texts laid together. -/
import Derived.Test.YtdndfncpglfdeaaGreatDoorMrgE5
import Derived.Test.YtdndfncpglfdeaaGreatDoorMrgE4

namespace Go.Proofs.YtdndfncpglfdeaaGreatDoor.Ev
set_option linter.unusedVariables false
set_option linter.unusedSimpArgs false
open Go.RowKit
section
variable {P:Program} {ops:Array Oper} {Q:Exit→St→Prop} {rest:List Oper} {d:Nat} {ty:TypeId} {pos:String} {af:Array Edge} {n:Nat} {env:List (Nat×AV)} {heap:List (Nat×Option AB)} {nx:Nat} {gl:List (Nat×List CV)}
theorem ao_heapEq {l:List Oper} {heap':List (Nat×Option AB)} (he:∀ b,St.H ⟨n,env,heap,nx,gl⟩ b=St.H ⟨n,env,heap',nx,gl⟩ b) (h:aP P ops Q l ⟨n,env,heap',nx,gl⟩):aP P ops Q l ⟨n,env,heap,nx,gl⟩:=fun base w0 M a hs =>
 h base w0 M a ⟨hs.H.trans (funext he),hs.nx,hs.n,hs.env,hs.gl,hs.heap,hs.below,hs.base,hs.defs,hs.old⟩
theorem r_in0F {f:FuncId} {fn:Func} {c:Code} {nt:Nat} {cf:Operand} {args:List Operand} {tys:Array TypeId} {caps ys:List AV} {env':List (Nat×AV)} (hf:P.funcs[f]?=some fn) (hb:fn.body=some c) (hr:fn.results=#[]) (hcall:bB P f=true) (hnt:fn.ntmps=nt) (hcf:St.ev ⟨n,env,heap,nx,gl⟩ cf=some (.fn f caps)) (hys:evs ⟨n,env,heap,nx,gl⟩ args=some ys) (hn:Nat.ble (ys++caps).length nt=true) (he:dl 0 (ys++caps)=env') (hd:Nat.blt d n=true)
  (h:gf P c (Back0 gl (fun heap nx=>aP P ops Q rest ⟨n,(d,.tup [])::env,heap,nx,gl⟩)) ⟨nt,env',heap,nx,gl⟩):aP P ops Q (⟨some d,.call ⟨.value cf,args.toArray,tys⟩,ty,pos,af,none⟩::rest) ⟨n,env,heap,nx,gl⟩:=by
 subst hnt;subst he
 intro base w0 M a hs
 obtain ⟨e1,e2⟩:=dN hys
 have hn:=Nat.le_of_ble_eq_true hn
 have hfv:=hs.ev hcf
 generalize hev:a.eval cf=fv at hfv
 cases hfv with
 | fn hl hh =>
 rename_i vs
 have hsim:Sim base w0 ⟨fn.ntmps,dl 0 (ys++caps),heap,nx,gl⟩ M { tmps:=((args.map a.eval).toArray++vs)++Array.replicate (fn.ntmps - ((args.map a.eval).toArray++vs).size) undef,defers:=[] }:=by
  refine ⟨hs.H,hs.nx,by simp at hn ⊢;omega,fun i y hy=>?_,hs.gl,hs.heap,hs.below,hs.base,rfl,hs.old⟩
  obtain ⟨_,h1⟩:=eA (ys++caps) 0 i y hy
  rw [Nat.sub_zero] at h1
  rcases Nat.lt_or_ge i ys.length with hi|hi
  ·rw [List.getElem?_append_left hi] at h1
   have hi2:i < args.length:=by omega
   exact ⟨a.eval args[i],by simp [Array.getElem?_append,hi2],hs.ev (e2 i args[i] y (by simp [hi2]) h1)⟩
  ·rw [List.getElem?_append_right hi] at h1
   have hi2:i - ys.length < vs.size:=by have:=(List.getElem?_eq_some_iff.1 h1).1;omega
   refine ⟨vs[i - ys.length],?_,hh _ y _ h1 (by simp [hi2])⟩
   have e:args.length=ys.length:=by omega
   rw [Array.getElem?_append,if_pos (by simp;omega),Array.getElem?_append,if_neg (by simp;omega)]
   simp only [List.size_toArray,List.length_map,e]
   exact Array.getElem?_eq_getElem hi2
 refine eS rfl (run_callf hcall a M.w hev) (R:=fun v w''=>wpList P ops (bN base w0 M Q) rest (a.put (some d) v) w'') (calls_of_wp hf hb ?_) (fun v w'' hR=>hR)
 refine Code.wp_mono ?_ (h base w0 M _ hsim)
 intro e a' w' ⟨M',s',h1,h2,h3,h4,h5,h7⟩
 subst h1
 have hres:(results fn a'.tmps).run P M'.w=.ok (.tuple #[]) M'.w:=by
  unfold results
  rw [hr]
  simp
 have g2:RA M' (.tup []) (.tuple #[]):=.tup rfl (fun i x u hx _=>by simp at hx)
 have hd':=ba hd
 have hcaller:Sim base w0 ⟨n,(d,.tup [])::env,s'.heap,s'.nx,gl⟩ M' (a.put (some d) (.tuple #[])):=by
  refine ⟨h2.H,h2.nx,by show (a.tmps.setIfInBounds d _).size=_;rw [Array.size_setIfInBounds];exact hs.n,fun i z hz=>?_,fun g xs hg=>h2.gl g xs (by rw [h5];exact hg),h2.heap,h2.below,h2.base,by simpa [Act.put] using hs.defs,h2.old⟩
  rw [az] at hz
  by_cases hi:d=i
  ·subst hi
   rw [if_pos rfl] at hz
   simp only [Option.some.injEq] at hz;subst hz
   exact ⟨.tuple #[],by simp [Act.put,hs.n,hd'],g2⟩
  ·rw [if_neg hi] at hz
   obtain ⟨u,q1,q2⟩:=hs.env i z hz
   exact ⟨u,by simp [Act.put,Array.getElem?_setIfInBounds_ne hi,q1],q2.mono h3⟩
 have hgoal:wpList P ops (bN base w0 M Q) rest (a.put (some d) (.tuple #[])) M'.w:=aM (fun e a w=>bN.ext h3) _ _ _ (h7 base w0 M' _ hcaller)
 have:bodyPost P fn (fun e w''=>∃ v,e=.returned v∧wpList P ops (bN base w0 M Q) rest (a.put (some d) v) w'') e a' M'.w:=by
  rcases h4 with rfl|rfl
  ·exact ⟨h2.defs,_,hres,_,rfl,hgoal⟩
  ·exact ⟨h2.defs,_,hres,_,rfl,hgoal⟩
 exact this
end
end Go.Proofs.YtdndfncpglfdeaaGreatDoor.Ev

namespace Go.Proofs.YtdndfncpglfdeaaGreatDoor.Ev
set_option linter.unusedVariables false
set_option linter.unusedSimpArgs false
open Go.RowKit
theorem awy_region {P:Program} {id:Nat} {ops:Array Oper} {dr:Bool} {Q:Exit→St→Prop} {QM:Nat→Exit→St→Prop} {st:St} (h:gf P (.region id ops dr) Q st):AwpY P (.region id ops dr) Q QM st:=awy_of h
theorem awy_cond {P:Program} {c:Operand} {x y:Code} {Q:Exit→St→Prop} {QM:Nat→Exit→St→Prop} {st:St} (h:gf P (.cond c x y) Q st):AwpY P (.cond c x y) Q QM st:=awy_of h
theorem awx_hide {P:Program} {ρ:Option Nat} {K:Wd→Prop} {ds:List Deferred} {c:Code} {Q:Exit→St→Prop} {st:St} (h:∀ Q',Q'=Q→eV ρ K ds P c Q' st):eV ρ K ds P c Q st:=h Q rfl
theorem awy_hide {P:Program} {c:Code} {Q:Exit→St→Prop} {QM:Nat→Exit→St→Prop} {st:St} (h:∀ Q',Q'=QM→AwpY P c Q Q' st):AwpY P c Q QM st:=h QM rfl
theorem no_thn {R:St→Prop} {Q:Exit→St→Prop} (h:gA Q):gA (thn R Q):=fun st hh=>h st hh
theorem no_inb {id:Nat} {Q:Exit→St→Prop} (h:gA Q):gA (inb id Q):=fun st hh=>h st hh
section
variable {P:Program} {X:List Oper→St→Prop} {rest:List Oper} {d:Nat} {ty:TypeId} {pos:String} {af:Array Edge} {n:Nat} {env:List (Nat×AV)} {heap:List (Nat×Option AB)} {nx:Nat} {gl:List (Nat×List CV)}
theorem r_callF [W:Walk P X] {f:FuncId} {args:List Operand} {tys:Array TypeId} {ys:List AV} {zs:List CV} {r:CV} {y:AV} (hys:evs ⟨n,env,heap,nx,gl⟩ args=some ys) (hz0:clF.clFL (ys.map fnc)=some zs) (hcon:bm P gl f zs r) (hy:ofC r=y) (hd:Nat.blt d n=true)
  (h:X rest ⟨n,(d,y)::env,heap,nx,gl⟩):X (⟨some d,.call ⟨.value (.func f),args.toArray,tys⟩,ty,pos,af,none⟩::rest) ⟨n,env,heap,nx,gl⟩:=by
 subst hy
 have hz:cl.clL (fun _=>none) (ys.map fnc) zs:=iM hz0
 refine W.step rfl rfl hd (fun base w0 M a hs K Q hK=>?_) h
 obtain ⟨e1,e2⟩:=dN hys
 obtain ⟨e3,e4⟩:=gG hz
 rw [List.length_map] at e3
 unfold Oper.wp
 rw [eQ hcon.1 a M.w]
 refine Calls.mono (hcon.2 M.w M.F _ hs.sim.heap.frz (fun g xs hg=>?_) (by simp;omega) (fun i x u hx hu=>?_)) (fun e w'' hR=>?_)
 ·have:=hs.sim.gl g xs hg
  generalize hq:Value.pointer (some ⟨g,0,none⟩)=q at this ⊢
  cases this with
  | eptr cs hF hcell hr=>exact .eptr cs hF hcell hr
 ·have hi:i < args.length:=by have:=(List.getElem?_eq_some_iff.1 hx).1;omega
  obtain ⟨y,hy⟩:∃ y,ys[i]?=some y:=⟨_,List.getElem?_eq_getElem (by omega)⟩
  have hev:=hs.ev (by simp [Op.operands,Call.operands];exact Or.inr (List.getElem_mem hi)) (e2 i args[i] y (by simp [hi]) hy)
  have hu':a.eval args[i]=u:=by simpa [hi] using hu
  rw [hu'] at hev
  exact il hs.sim.heap (F':=M.F) (fun _ h=>h) (fun b E s l h=>by cases h) hev.fnc (e4 i (fnc y) x (by simp [hy]) hx)
 ·obtain ⟨v,rfl,hb,hrc⟩:=hR
  exact hK v (M.after w'') (Ext.after hb hs.sim.heap.frz) (fun s hs'=>hs'.after hb) (RA.ofC (M:=M.after w'') hrc)
end
end Go.Proofs.YtdndfncpglfdeaaGreatDoor.Ev

namespace Go.Proofs.YtdndfncpglfdeaaGreatDoor.Ev
set_option linter.unusedVariables false
set_option linter.unusedSimpArgs false
open Go.RowKit
section
variable {P:Program} {ρ:Option Nat} {K:Wd→Prop}
theorem awx_draw {id:Nat} {l:List Oper} {Q:Exit→St→Prop} (hd:gV l=true) (hQ:gA Q) {st:St} (n:Nat) (hm:P.follows .mixedOrders=true) (hB:drawB l.toArray n=true)
  (h:bW P l.toArray (aP P l.toArray Q (l.drop n)) (l.take n) st):eV ρ K [] P (.region id l.toArray true) Q st:=by
 simp only [drawB,Bool.and_eq_true,Bool.or_eq_true] at hB
 obtain ⟨⟨⟨hsel,hle⟩,hcase⟩,hlex⟩:=hB
 have hle:=Nat.le_of_ble_eq_true hle
 have hle':n≤l.length:=by simpa using hle
 have htl:(l.take n).length=n:=by simp;omega
 have hdl:(l.drop n).length=l.toArray.size - n:=by simp
 have inv0:HeadInv .any l.toArray n (Array.replicate l.toArray.size false) :=
  ⟨by simp,fun j oj _ hl=>(by rw [getD_replicate_false] at hl;cases hl),fun t _ ht=>getD_in (by simpa using ht) (getD_replicate_false _ _)⟩
 have htail:∀ listed,HeadInv .any l.toArray n listed→∀ i,i < n→listed.getD i true=false→∀ t,n≤t→t ∉ Region.ready .any l.toArray listed:=by
  intro listed inv i hi hun t ht
  rcases hcase with he|⟨hs,hc⟩
  ·intro hr
   obtain ⟨_,o,ho,_⟩:=mem_ready.1 hr
   have:=(Array.getElem?_eq_some_iff.1 ho).1
   have:=cu he
   omega
  ·rcases Nat.lt_or_ge n l.toArray.size with hn|hn
   ·exact tail_waits hs hc hn inv _ i rfl hi hun t ht
   ·intro hr
    obtain ⟨_,o,ho,_⟩:=mem_ready.1 hr
    have:=(Array.getElem?_eq_some_iff.1 ho).1
    omega
 intro base w0 M a hs0
 have hs:=hs0.mk'
 have H:=DAny_lex (P:=P) (md:=.any) (ops:=l.toArray) (n:=n) (g:=l.toArray.size - n) (Lq:=aP P l.toArray Q (l.drop n)) (fun s t e hh=>fun base w0 M a hs'=>hh base w0 M a (e.symm.sim hs')) htail (l.take n) 0 _ st (fun j hj=>by
  have hj':j < n:=by rw [htl] at hj;exact hj
  simp [hj']) (by simpa using htl) inv0 (by rw [htl];exact hlex) h
 refine wpIn_region_any hm (wpAny_in (lets_out hQ) (fun _ _ _=>lift_x) (iY hd) _ _ _ _ ?_)
 have:=gM (P:=P) (md:=.any) (ops:=l.toArray) (n:=n) (base:=base) (w0:=w0) (M0:=M) (Q:=Q) (g:=l.toArray.size - n) (fun listed st' M' a' hL hs' he=>by
  have h1:=aM (fun e a w=>bN.ext he) _ _ _ (hL.2 base w0 M' a' hs')
  have h2:=wpAny_of_seq (md:=.any) (l.drop n) n listed a' M'.w (fun j=>by simp) (by rw [hdl];exact hL.1) h1
  rwa [hdl] at h2) (l.take n).length (Array.replicate l.toArray.size false) st M.drew a hs.drew (Ext.drew M) H
 rw [htl] at this
 rw [show n+(l.toArray.size - n)=l.toArray.size by omega] at this
 exact this
theorem awx_drawt {id:Nat} {l:List Oper} {Q:Exit→St→Prop} {st:St} (hd:gV l=true) (hQ:gA Q) [m:Mixed P] (n:Nat) (hB:drawB l.toArray n=true) (h:bW P l.toArray (aP P l.toArray Q (l.drop n)) (l.take n) st):eV ρ K [] P (.region id l.toArray true) Q st :=
 awx_draw hd hQ n m.h hB h
theorem awx_drawV {id:Nat} {l:List Oper} {Q:Exit→St→Prop} (hd:gV l=true) (hQ:gA Q) {nn nx:Nat} {env:List (Nat×AV)} {heap:List (Nat×Option AB)} {gl:List (Nat×List CV)} [m:Mixed P] (bs is js:List Nat) (k:Nat) (listed0:Array Bool) (hB:drawVB l.toArray is js k=true) (h0:listed0=bZ js (bZ is (Array.replicate l.length false))) (hf:frB heap nx=true)
  (h:bW P l.toArray (fun s=>bW P l.toArray (fun s=>cH P l.toArray bs (endsV P l.toArray Q) k listed0 { s with heap:=heap }) (pk l js) { s with heap:=bs.map (fun b=>(b,none))++heap }) (pk l is) ⟨nn,env,heap,nx,gl⟩):eV ρ K [] P (.region id l.toArray true) Q ⟨nn,env,heap,nx,gl⟩:=by
 simp only [drawVB,Bool.and_eq_true] at hB
 obtain ⟨⟨⟨hsel,hlen⟩,hbar⟩,hord⟩:=hB
 have hlen:=cu hlen
 intro base w0 M a hs0
 have hs:=hs0.mk'
 subst h0
 have hsz:l.length=l.toArray.size:=by simp
 rw [hsz] at h
 have H:=DAny4_ord1 (P:=P) (ops:=l.toArray) (bs:=bs) (k:=js.length+k) (Q:=Q) (hp:=heap) (rest:=fun listed=>i0 .any l.toArray (fun _=>true) js listed) (E:=fun s=>bW P l.toArray (fun s=>cH P l.toArray bs (endsV P l.toArray Q) k (bZ js (bZ is (Array.replicate l.toArray.size false))) { s with heap:=heap }) (pk l js) { s with heap:=bs.map (fun b=>(b,none))++heap }) is _ ⟨nn,env,heap,nx,gl⟩
  (fun st cl fr hhp hB hE=>DAny4_ord (hp:=heap) js _ st hhp cl fr hB (by
   have e:st.hide bs={ st with heap:=bs.map (fun b=>(b,none))++heap }:=by unfold St.hide;rw [hhp]
   rw [e];exact hE)) (cl_0 _) (fr_of hf) rfl hbar hord h
 refine wpIn_region_any m.h (wpAny_in (lets_out hQ) (fun _ _ _=>lift_x) (iY hd) _ _ _ _ ?_)
 have:=gp (P:=P) (ops:=l.toArray) (bs:=bs) (base:=base) (w0:=w0) (M0:=M) (Q:=Q) (fun listed st' M' a' hL hs' he=>by
  have h1:=aM (fun e a w=>bN.ext he) _ _ _ (hL.2 base w0 M' a' hs')
  exact ⟨hL.1,h1⟩) (is.length+(js.length+k)) (Array.replicate l.toArray.size false) _ M.drew a hs.drew (Ext.drew M) H
 rw [hlen] at this
 exact this
end
end Go.Proofs.YtdndfncpglfdeaaGreatDoor.Ev

namespace Go.Proofs.YtdndfncpglfdeaaGreatDoor.Ev
set_option linter.unusedVariables false
set_option linter.unusedSimpArgs false
open Go.RowKit
theorem fK {w:World} {b0 base E s n:Nat} {v:Value} {cs:List Value} (h:w.ownsRow b0 E s v n cs) (hb:∀ k,v.ownBlock=some k→base≤k):w.ownsRow base E s v n cs :=
 ⟨h.1,h.2.imp id (fun ⟨g,cap,cur,e,_,rest⟩=>⟨g,cap,cur,e,hb g (by rw [e];rfl),rest⟩)⟩
theorem ownsRow_congr {w w':World} {b E s n:Nat} {v:Value} {cs:List Value} (h:w.ownsRow b E s v n cs) (hk:∀ k,v.ownBlock=some k→w'.heap[k]?=w.heap[k]?):w'.ownsRow b E s v n cs :=
 ⟨h.1,h.2.imp id (fun ⟨g,cap,cur,e,hb,hg,rest⟩=>⟨g,cap,cur,e,hb,(hk g (by rw [e];rfl)).trans hg,rest⟩)⟩
theorem ownsRow_cell {w:World} {b E s n:Nat} {v:Value} {cs:List Value} (h:w.ownsRow b E s v n cs):v.oneCell'=true:=by
 rcases h.2 with ⟨rfl,_⟩|⟨g,cap,cur,rfl,_⟩<;>rfl
structure RowIs (F:Nat→Prop) (w:World) (E size:Nat) (l:List CV) (n:Nat) (v:Value) (cs:List Value):Prop where
 len:l.length=n * size
 pos:0 < size
 own:w.ownsRow 0 E size v n cs
 rc:∀ (i:Nat) (x:CV) (u:Value),l[i]?=some x→cs[i]?=some u→RC F w x u
theorem RowIs.mono {F F':Nat→Prop} {w w':World} {E size n:Nat} {l:List CV} {v:Value} {cs:List Value} (h:RowIs F w E size l n v cs) (hF:∀ k,F k→F' k∧w'.heap[k]?=w.heap[k]?) (hk:∀ k,v.ownBlock=some k→w'.heap[k]?=w.heap[k]?):RowIs F' w' E size l n v cs :=
 ⟨h.len,h.pos,ownsRow_congr h.own hk,fun i x u hx hu=>(h.rc i x u hx hu).mono hF⟩
def iE (t:TypeId) (cl:List CV) (E1 s1:Nat) (l1:List CV) (n1 E2 s2:Nat) (l2:List CV) (n2:Nat):ObjP where
 holds:=fun F w g fp=>∃ (ar:List Value) (v1 v2:Value) (cs1 cs2:List Value),w.heap[g]?=some (.cells (ar++[v1,v2]).toArray t (0,0))∧ar.length=cl.length∧(∀ (i:Nat) (x:CV) (u:Value),cl[i]?=some x→ar[i]?=some u→RC F w x u)∧RowIs F w E1 s1 l1 n1 v1 cs1∧RowIs F w E2 s2 l2 n2 v2 cs2∧(∀ k,fp k↔(k=g∨v1.ownBlock=some k∨v2.ownBlock=some k))∧v1.ownBlock≠some g∧v2.ownBlock≠some g∧∀ k,v1.ownBlock=some k→v2.ownBlock≠some k
 stable:=fun F F' w w' g fp ⟨ar,v1,v2,cs1,cs2,h1,h2,h3,h4,h5,h6,h7,h8,h9⟩ hF hk =>
  ⟨ar,v1,v2,cs1,cs2,(hk g ((h6 g).2 (.inl rfl))).trans h1,h2,fun i x u hx hu=>(h3 i x u hx hu).mono hF,h4.mono hF (fun k hv=>hk k ((h6 k).2 (.inr (.inl hv)))),h5.mono hF (fun k hv=>hk k ((h6 k).2 (.inr (.inr hv)))),h6,h7,h8,h9⟩
section
variable {base:Nat} {w0:W0} {st:St} {M:Wd} {a:Act} {t E1 s1 n1 E2 s2 n2:Nat} {cl l1 l2:List CV}
theorem Sim.openR2 (hs:Sim base w0 st M a) {b:Nat} (hb:st.H b=some (.obj (iE t cl E1 s1 l1 n1 E2 s2 l2 n2))) :
  ∃ M',M'.w=M.w∧Sim base w0 { st with heap:=(b,some (.cells t (cl.map .c++[.vec st.nx n1,.vec (st.nx+1) n2])))::(st.nx,some (.vec E1 s1 l1))::(st.nx+1,some (.vec E2 s2 l2))::st.heap,nx:=st.nx+2 } M' a∧Ext M M':=by
 have hbM:M.H b=some (.obj (iE t cl E1 s1 l1 n1 E2 s2 l2 n2)):=by rw [hs.H];exact hb
 obtain ⟨g,o1,o2,⟨ar,v1,v2,cs1,cs2,h1,h2,h3,h4,h5,h6,h7,h8,h9⟩,o4,o5⟩:=hs.heap.obj b _ hbM
 have hbn:b < M.nx:=hs.heap.lt b (by rw [hbM];simp)
 have hnx:=hs.nx
 let M':Wd:={ M with m:=fun k=>if k=M.nx then .row v1 else if k=M.nx+1 then .row v2 else M.m k,H:=St.H { st with heap:=(b,some (.cells t (cl.map .c++[.vec st.nx n1,.vec (st.nx+1) n2])))::(st.nx,some (.vec E1 s1 l1))::(st.nx+1,some (.vec E2 s2 l2))::st.heap,nx:=st.nx+2 },nx:=M.nx+2 }
 have hH:∀ k,M'.H k=if b=k then some (.cells t (cl.map .c++[.vec M.nx n1,.vec (M.nx+1) n2])) else if M.nx=k then some (.vec E1 s1 l1) else if M.nx+1=k then some (.vec E2 s2 l2) else M.H k:=fun k=>by
  show St.H _ k=_
  unfold St.H
  simp only [az,← hnx]
  by_cases q1:b=k
  ·rw [if_pos q1,if_pos q1]
  ·rw [if_neg q1,if_neg q1]
   by_cases q2:M.nx=k
   ·rw [if_pos q2,if_pos q2]
   ·rw [if_neg q2,if_neg q2]
    by_cases q3:M.nx+1=k
    ·rw [if_pos q3,if_pos q3]
    ·rw [if_neg q3,if_neg q3,hs.H];rfl
 have hm1:M'.m M.nx=.row v1:=by simp [M']
 have hm2:M'.m (M.nx+1)=.row v2:=by simp [M']
 have hm':∀ k,M.nx≠k→M.nx+1≠k→M'.m k=M.m k:=fun k q1 q2=>by simp [M',Ne.symm q1,Ne.symm q2]
 have hmb:M'.m b=.blk g:=by rw [hm' b (by omega) (by omega)];exact o1
 have hold:∀ k,b≠k→M.nx≠k→M.nx+1≠k→M'.H k=M.H k:=fun k q1 q2 q3=>by rw [hH,if_neg q1,if_neg q2,if_neg q3]
 have hext:Ext M M':=by
  refine ⟨fun k g' hk=>?_,fun k E size' l' hk hl=>?_,by simp [M'],fun k hk=>⟨hk,rfl⟩⟩
  ·rw [hm' k (fun he=>hs.heap.fresh k (by omega) g' hk) (fun he=>hs.heap.fresh k (by omega) g' hk)];exact hk
  ·have q1:b≠k:=fun e=>by rw [hH,if_pos e] at hl;cases hl
   rw [hold k q1 (by omega) (by omega)] at hl
   exact ⟨l',hl,Nat.le_refl _,fun _=>hm' k (by omega) (by omega)⟩
 -- what a block of the three holds lies in the object's footprint;what another one holds does not
 have hin:∀ k,(k=b∨k=M.nx∨k=M.nx+1)→∀ j,(M'.m k).block=some j→M.fp b j:=by
  rintro k (rfl|rfl|rfl) j hj
  ·rw [hmb] at hj
   simp only [Conc.block,Option.some.injEq] at hj;subst hj;exact o2
  ·rw [hm1] at hj;exact (h6 j).2 (.inr (.inl hj))
  ·rw [hm2] at hj;exact (h6 j).2 (.inr (.inr hj))
 have hout:∀ k,b≠k→M.nx≠k→M.nx+1≠k→M'.H k≠none→∀ j,(M'.m k).block=some j→¬ M.fp b j:=by
  intro k q1 q2 q3 hk j hj hf
  rw [hold k q1 q2 q3] at hk
  rw [hm' k q2 q3] at hj
  exact (o5 k j (Ne.symm q1) hf).1 hk hj
 have hca:∀ k:Nat,(k=b∨k=M.nx∨k=M.nx+1)∨(b≠k∧M.nx≠k∧M.nx+1≠k):=fun k=>by omega
 refine ⟨M',rfl,⟨rfl,by show M.nx+2=st.nx+2;rw [hnx],hs.n,fun i y hy=>?_,fun g xs hg=>(hs.gl g xs hg).mono hext,⟨?_,?_,?_,?_,?_,hs.heap.frz,?_⟩,hs.below,hs.base,hs.defs,hs.old⟩,hext⟩
 ·obtain ⟨u,q1,q2⟩:=hs.env i y hy
  exact ⟨u,q1,q2.mono hext⟩
 ·intro k t' l' hl
  by_cases q1:b=k
  ·subst q1
   rw [hH,if_pos rfl] at hl
   simp only [Option.some.injEq,AB.cells.injEq] at hl
   obtain ⟨rfl,rfl⟩:=hl
   obtain ⟨r1,r2,r3⟩:=o4 g o2
   refine ⟨g,_,hmb,r1,r3,h1,by simp [h2],fun i x u hx hu=>?_⟩
   have hu':(ar++[v1,v2])[i]?=some u:=by simpa using hu
   by_cases hi:i < cl.length
   ·rw [List.getElem?_append_left (by simpa using hi),List.getElem?_map] at hx
    rw [List.getElem?_append_left (by omega)] at hu'
    cases hcx:cl[i]? with
    | none=>rw [hcx] at hx;cases hx
    | some z =>
     rw [hcx] at hx
     simp only [Option.map_some,Option.some.injEq] at hx
     subst hx
     exact .c (h3 i z u hcx hu')
   ·rw [List.getElem?_append_right (by simpa using hi)] at hx
    rw [List.getElem?_append_right (by omega)] at hu'
    rw [List.length_map] at hx
    rw [h2] at hu'
    have hi2:i - cl.length=0∨i - cl.length=1∨2≤i - cl.length:=by omega
    rcases hi2 with e|e|e
    ·rw [e] at hx hu'
     simp at hx hu';subst hx;subst hu'
     refine .vec (by show M.nx < M.nx+2;omega) (ownsRow_cell h4.own) (fun E size l hv=>?_)
     rw [hH,if_neg (by omega),if_pos rfl] at hv
     simp only [Option.some.injEq,AB.vec.injEq] at hv
     obtain ⟨rfl,rfl,rfl⟩:=hv
     exact ⟨Nat.le_of_eq h4.len.symm,fun _=>hm1⟩
    ·rw [e] at hx hu'
     simp at hx hu';subst hx;subst hu'
     refine .vec (by show M.nx+1 < M.nx+2;omega) (ownsRow_cell h5.own) (fun E size l hv=>?_)
     rw [hH,if_neg (by omega),if_neg (by omega),if_pos rfl] at hv
     simp only [Option.some.injEq,AB.vec.injEq] at hv
     obtain ⟨rfl,rfl,rfl⟩:=hv
     exact ⟨Nat.le_of_eq h5.len.symm,fun _=>hm2⟩
    ·rw [List.getElem?_eq_none (by simp;omega)] at hx;cases hx
  ·have q2:M.nx≠k:=fun e=>by rw [hH,if_neg q1,if_pos e] at hl;cases hl
   have q3:M.nx+1≠k:=fun e=>by rw [hH,if_neg q1,if_neg q2,if_pos e] at hl;cases hl
   rw [hold k q1 q2 q3] at hl
   obtain ⟨g',arr',e1,e2,e3,e4,e5,e6⟩:=hs.heap.cells k t' l' hl
   exact ⟨g',arr',by rw [hm' k q2 q3];exact e1,e2,e3,e4,e5,fun i x u hx hu=>(e6 i x u hx hu).mono hext⟩
 ·intro k E size l' hl
  have q1:b≠k:=fun e=>by rw [hH,if_pos e] at hl;cases hl
  rw [hH,if_neg q1] at hl
  by_cases q2:M.nx=k
  ·subst q2
   rw [if_pos rfl] at hl
   simp only [Option.some.injEq,AB.vec.injEq] at hl
   obtain ⟨rfl,rfl,rfl⟩:=hl
   exact ⟨v1,n1,cs1,hm1,h4.len,h4.pos,fK h4.own (fun k hk=>(o4 k ((h6 k).2 (.inr (.inl hk)))).1),h4.rc,fun j hj=>(o4 j ((h6 j).2 (.inr (.inl hj)))).2.2⟩
  ·rw [if_neg q2] at hl
   by_cases q3:M.nx+1=k
   ·subst q3
    rw [if_pos rfl] at hl
    simp only [Option.some.injEq,AB.vec.injEq] at hl
    obtain ⟨rfl,rfl,rfl⟩:=hl
    exact ⟨v2,n2,cs2,hm2,h5.len,h5.pos,fK h5.own (fun k hk=>(o4 k ((h6 k).2 (.inr (.inr hk)))).1),h5.rc,fun j hj=>(o4 j ((h6 j).2 (.inr (.inr hj)))).2.2⟩
   ·rw [if_neg q3] at hl
    obtain ⟨v,n,cs,e1,e2⟩:=hs.heap.vec k E size l' hl
    exact ⟨v,n,cs,by rw [hm' k q2 q3];exact e1,e2⟩
 ·intro k k' j hkk hk hk' hj hj'
  rcases hca k with c1|⟨c1,c2,c3⟩
  ·rcases hca k' with d1|⟨d1,d2,d3⟩
   ·rcases c1 with rfl|rfl|rfl
    ·rw [hmb] at hj
     simp only [Conc.block,Option.some.injEq] at hj;subst hj
     rcases d1 with rfl|rfl|rfl
     ·exact hkk rfl
     ·rw [hm1] at hj';exact h7 hj'
     ·rw [hm2] at hj';exact h8 hj'
    ·rw [hm1] at hj
     rcases d1 with rfl|rfl|rfl
     ·rw [hmb] at hj'
      simp only [Conc.block,Option.some.injEq] at hj';subst hj';exact h7 hj
     ·exact hkk rfl
     ·rw [hm2] at hj';exact h9 j hj hj'
    ·rw [hm2] at hj
     rcases d1 with rfl|rfl|rfl
     ·rw [hmb] at hj'
      simp only [Conc.block,Option.some.injEq] at hj';subst hj';exact h8 hj
     ·rw [hm1] at hj';exact h9 j hj' hj
     ·exact hkk rfl
   ·exact hout k' d1 d2 d3 hk' j hj' (hin k c1 j hj)
  ·rcases hca k' with d1|⟨d1,d2,d3⟩
   ·exact hout k c1 c2 c3 hk j hj (hin k' d1 j hj')
   ·rw [hold k c1 c2 c3] at hk
    rw [hold k' d1 d2 d3] at hk'
    rw [hm' k c2 c3] at hj
    rw [hm' k' d2 d3] at hj'
    exact hs.heap.sep k k' j hkk hk hk' hj hj'
 ·intro k hk
  show k < M.nx+2
  rcases hca k with c1|⟨c1,c2,c3⟩
  ·omega
  ·rw [hold k c1 c2 c3] at hk
   have:=hs.heap.lt k hk
   omega
 ·intro k hk
  have hk:M.nx+2≤k:=hk
  rw [hm' k (by omega) (by omega)]
  exact hs.heap.fresh k (by omega)
 ·intro k x hx
  have q1:b≠k:=fun e=>by rw [hH,if_pos e] at hx;cases hx
  have q2:M.nx≠k:=fun e=>by rw [hH,if_neg q1,if_pos e] at hx;cases hx
  have q3:M.nx+1≠k:=fun e=>by rw [hH,if_neg q1,if_neg q2,if_pos e] at hx;cases hx
  rw [hold k q1 q2 q3] at hx
  obtain ⟨g',e1,e2,e3,e4,e5⟩:=hs.heap.obj k x hx
  refine ⟨g',by rw [hm' k q2 q3];exact e1,e2,e3,e4,fun b' j hbb hj=>⟨fun hb' hq=>?_,fun p2 hp2 hf=>?_⟩⟩
  ·rcases hca b' with c1|⟨c1,c2,c3⟩
   ·exact (e5 b j q1 hj).2 _ hbM (hin b' c1 j hq)
   ·rw [hold b' c1 c2 c3] at hb'
    rw [hm' b' c2 c3] at hq
    exact (e5 b' j hbb hj).1 hb' hq
  ·have c1:b≠b':=fun e=>by rw [hH,if_pos e] at hp2;cases hp2
   have c2:M.nx≠b':=fun e=>by rw [hH,if_neg c1,if_pos e] at hp2;cases hp2
   have c3:M.nx+1≠b':=fun e=>by rw [hH,if_neg c1,if_neg c2,if_pos e] at hp2;cases hp2
   rw [hold b' c1 c2 c3] at hp2
   exact (e5 b' j hbb hj).2 p2 hp2 hf
theorem Sim.closeR2 (hs:Sim base w0 st M a) {b b1 b2:Nat} (hb:st.H b=some (.cells t (cl.map .c++[.vec b1 n1,.vec b2 n2]))) (hb1:st.H b1=some (.vec E1 s1 l1)) (hb2:st.H b2=some (.vec E2 s2 l2)) (hl1:l1.length=n1 * s1) (hl2:l2.length=n2 * s2) (hn1:b≠b1) (hn2:b≠b2) (hn3:b1≠b2) :
  ∃ M',M'.w=M.w∧Sim base w0 { st with heap:=(b,some (.obj (iE t cl E1 s1 l1 n1 E2 s2 l2 n2)))::(b1,none)::(b2,none)::st.heap } M' a∧Ext M M':=by
 have hbM:M.H b=some (.cells t (cl.map .c++[.vec b1 n1,.vec b2 n2])):=by rw [hs.H];exact hb
 have hb1M:M.H b1=some (.vec E1 s1 l1):=by rw [hs.H];exact hb1
 have hb2M:M.H b2=some (.vec E2 s2 l2):=by rw [hs.H];exact hb2
 obtain ⟨g,arr,c1,c2,c3,c4,c5,c6⟩:=hs.heap.cells b _ _ hbM
 obtain ⟨v1,m1,cs1,p1,p2,p3,p4,p5,p6⟩:=hs.heap.vec b1 _ _ _ hb1M
 obtain ⟨v2,m2,cs2,r1,r2,r3,r4,r5,r6⟩:=hs.heap.vec b2 _ _ _ hb2M
 have em1:m1=n1:=Nat.eq_of_mul_eq_mul_right p3 (p2.symm.trans hl1)
 have em2:m2=n2:=Nat.eq_of_mul_eq_mul_right r3 (r2.symm.trans hl2)
 subst em1;subst em2
 have hsz:arr.size=cl.length+2:=by rw [← c5];simp
 have ha1:arr[cl.length]?=some v1:=by
  have hu:arr[cl.length]?=some arr[cl.length]:=Array.getElem?_eq_getElem (by omega)
  have:=c6 cl.length (.vec b1 m1) _ (by rw [List.getElem?_append_right (by simp)];simp) hu
  cases this with
  | vec _ _ hv =>
   have:=(hv _ _ _ hb1M).2 hl1
   rw [p1] at this
   injection this with this
   rw [hu,this]
 have ha2:arr[cl.length+1]?=some v2:=by
  have hu:arr[cl.length+1]?=some arr[cl.length+1]:=Array.getElem?_eq_getElem (by omega)
  have:=c6 (cl.length+1) (.vec b2 m2) _ (by rw [List.getElem?_append_right (by simp)];simp) hu
  cases this with
  | vec _ _ hv =>
   have:=(hv _ _ _ hb2M).2 hl2
   rw [r1] at this
   injection this with this
   rw [hu,this]
 have harr:arr=(arr.toList.take cl.length++[v1,v2]).toArray:=by
  apply Array.ext'
  apply List.ext_getElem?
  intro i
  by_cases hi:i < cl.length
  ·rw [List.getElem?_append_left (by simp;omega),List.getElem?_take_of_lt hi]
  ·rw [List.getElem?_append_right (by simp;omega)]
   have hl:(arr.toList.take cl.length).length=cl.length:=by simp;omega
   rw [hl,Array.getElem?_toList]
   have hi2:i - cl.length=0∨i - cl.length=1∨2≤i - cl.length:=by omega
   rcases hi2 with e|e|e
   ·rw [e,show i=cl.length by omega,ha1];rfl
   ·rw [e,show i=cl.length+1 by omega,ha2];rfl
   ·rw [Array.getElem?_eq_none (by omega),List.getElem?_eq_none (by simp;omega)]
 have hsep:=hs.heap.sep
 let fp':Nat→Prop:=fun j=>j=g∨v1.ownBlock=some j∨v2.ownBlock=some j
 let M':Wd:={ M with H:=St.H { st with heap:=(b,some (.obj (iE t cl E1 s1 l1 m1 E2 s2 l2 m2)))::(b1,none)::(b2,none)::st.heap },fp:=fun k=>if k=b then fp' else M.fp k }
 have hH:∀ k,M'.H k=if b=k then some (.obj (iE t cl E1 s1 l1 m1 E2 s2 l2 m2)) else if b1=k then none else if b2=k then none else M.H k:=fun k=>by
  show St.H _ k=_
  unfold St.H
  simp only [az]
  by_cases q1:b=k
  ·rw [if_pos q1,if_pos q1]
  ·rw [if_neg q1,if_neg q1]
   by_cases q2:b1=k
   ·rw [if_pos q2,if_pos q2]
   ·rw [if_neg q2,if_neg q2]
    by_cases q3:b2=k
    ·rw [if_pos q3,if_pos q3]
    ·rw [if_neg q3,if_neg q3,hs.H];rfl
 have hold:∀ k,b≠k→∀ x,M'.H k=some x→M.H k=some x∧b1≠k∧b2≠k:=fun k hk x hx=>by
  rw [hH,if_neg hk] at hx
  by_cases q1:b1=k
  ·rw [if_pos q1] at hx;cases hx
  ·rw [if_neg q1] at hx
   by_cases q2:b2=k
   ·rw [if_pos q2] at hx;cases hx
   ·rw [if_neg q2] at hx;exact ⟨hx,q1,q2⟩
 have hno:∀ k,M'.H k≠none→M.H k≠none∧b1≠k∧b2≠k:=fun k hk=>by
  by_cases q1:b=k
  ·subst q1;exact ⟨by rw [hbM];simp,Ne.symm hn1,Ne.symm hn2⟩
  ·obtain ⟨x,hx⟩:=Option.ne_none_iff_exists'.1 hk
   obtain ⟨k1,k2,k3⟩:=hold k q1 x hx
   exact ⟨by rw [k1];simp,k2,k3⟩
 have hext:Ext M M':=⟨fun _ _ h=>h,fun k E size' l' _ hl=>by
  by_cases h:b=k
  ·rw [hH,if_pos h] at hl;cases hl
  ·exact ⟨l',(hold k h _ hl).1,Nat.le_refl _,fun _=>rfl⟩,Nat.le_refl _,fun k hk=>⟨hk,rfl⟩⟩
 have hfpb:M'.fp b=fp':=by simp [M']
 have hfpk:∀ k,b≠k→M'.fp k=M.fp k:=fun k hk=>by simp [M',Ne.symm hk]
 -- what the three blocks hold
 have hin:∀ j,fp' j→∃ k,(k=b∨k=b1∨k=b2)∧(M.m k).block=some j:=by
  rintro j (rfl|hj|hj)
  ·exact ⟨b,.inl rfl,by rw [c1];rfl⟩
  ·exact ⟨b1,.inr (.inl rfl),by rw [p1];exact hj⟩
  ·exact ⟨b2,.inr (.inr rfl),by rw [r1];exact hj⟩
 have hne3:∀ k,(k=b∨k=b1∨k=b2)→M.H k≠none:=by
  rintro k (rfl|rfl|rfl)
  ·rw [hbM];simp
  ·rw [hb1M];simp
  ·rw [hb2M];simp
 have hnF:∀ j,fp' j→base≤j∧j < M.w.heap.size∧¬ M.F j:=by
  rintro j (rfl|hj|hj)
  ·exact ⟨c2,(Array.getElem?_eq_some_iff.1 c4).1,c3⟩
  ·exact ⟨(World.ownsRow.lt p4 j hj).1,(World.ownsRow.lt p4 j hj).2,p6 j hj⟩
  ·exact ⟨(World.ownsRow.lt r4 j hj).1,(World.ownsRow.lt r4 j hj).2,r6 j hj⟩
 refine ⟨M',rfl,⟨rfl,hs.nx,hs.n,fun i y hy=>?_,fun g xs hg=>(hs.gl g xs hg).mono hext,⟨?_,?_,?_,?_,hs.heap.fresh,hs.heap.frz,?_⟩,hs.below,hs.base,hs.defs,hs.old⟩,hext⟩
 ·obtain ⟨u,h1,h2⟩:=hs.env i y hy
  exact ⟨u,h1,h2.mono hext⟩
 ·intro k t' l' hl
  have hk:b≠k:=fun e=>by rw [hH,if_pos e] at hl;cases hl
  obtain ⟨g',arr',g1,g2,g3,g4,g5,g6⟩:=hs.heap.cells k t' l' (hold k hk _ hl).1
  exact ⟨g',arr',g1,g2,g3,g4,g5,fun i x u hx hu=>(g6 i x u hx hu).mono hext⟩
 ·intro k E size l' hl
  have hk:b≠k:=fun e=>by rw [hH,if_pos e] at hl;cases hl
  exact hs.heap.vec k E size l' (hold k hk _ hl).1
 ·intro k k' j hkk hk hk'
  exact hsep k k' j hkk (hno k hk).1 (hno k' hk').1
 ·exact fun k hk=>hs.heap.lt k (hno k hk).1
 ·intro k x hx
  by_cases hk:b=k
  ·subst hk
   rw [hH,if_pos rfl] at hx
   simp only [Option.some.injEq,AB.obj.injEq] at hx;subst hx
   refine ⟨g,c1,by rw [hfpb];exact .inl rfl,?_,fun j hj=>hnF j (by rw [hfpb] at hj;exact hj),fun b' j hbb hj=>?_⟩
   ·rw [hfpb]
    refine ⟨arr.toList.take cl.length,v1,v2,cs1,cs2,by rw [← harr];exact c4,by simp;omega,fun i x u hx hu=>?_,⟨hl1,p3,fK p4 (fun _ _=>Nat.zero_le _),p5⟩,⟨hl2,r3,fK r4 (fun _ _=>Nat.zero_le _),r5⟩,fun j=>Iff.rfl,fun hv=>?_,fun hv=>?_,fun j hv hv2=>?_⟩
    ·have hi:i < cl.length:=(List.getElem?_eq_some_iff.1 hx).1
     rw [List.getElem?_take_of_lt hi,Array.getElem?_toList] at hu
     have:=c6 i (.c x) u (by rw [List.getElem?_append_left (by simpa using hi),List.getElem?_map,hx];rfl) hu
     cases this with
     | c h=>exact h
    ·exact hsep b b1 g hn1 (by rw [hbM];simp) (by rw [hb1M];simp) (by rw [c1];rfl) (by rw [p1];exact hv)
    ·exact hsep b b2 g hn2 (by rw [hbM];simp) (by rw [hb2M];simp) (by rw [c1];rfl) (by rw [r1];exact hv)
    ·exact hsep b1 b2 j hn3 (by rw [hb1M];simp) (by rw [hb2M];simp) (by rw [p1];exact hv) (by rw [r1];exact hv2)
   ·rw [hfpb] at hj
    obtain ⟨k0,hk0,hk1⟩:=hin j hj
    refine ⟨fun hb' hq=>?_,fun p2 hp2 hf=>?_⟩
    ·obtain ⟨n1',n2',n3'⟩:=hno b' hb'
     refine hsep k0 b' j (fun e=>?_) (hne3 k0 hk0) n1' hk1 hq
     rcases hk0 with e2|e2|e2
     ·exact hbb (by rw [← e,e2])
     ·exact n2' (by rw [← e,e2])
     ·exact n3' (by rw [← e,e2])
    ·rw [hfpk b' (Ne.symm hbb)] at hf
     obtain ⟨n1',n2',n3'⟩:=hold b' (Ne.symm hbb) _ hp2
     obtain ⟨_,_,_,_,_,r5'⟩:=hs.heap.obj b' p2 n1'
     refine (r5' k0 j (fun e=>?_) hf).1 (hne3 k0 hk0) hk1
     rcases hk0 with e2|e2|e2
     ·exact hbb (by rw [← e,e2])
     ·exact n2' (by rw [← e,e2])
     ·exact n3' (by rw [← e,e2])
  ·obtain ⟨n1',n2',n3'⟩:=hold k hk _ hx
   obtain ⟨g',e1,e2,e3,e4,e5⟩:=hs.heap.obj k x n1'
   rw [hfpk k hk]
   refine ⟨g',e1,e2,e3,e4,fun b' j hbb hj=>⟨fun hb'=>(e5 b' j hbb hj).1 (hno b' hb').1,fun p2 hp2 hf=>?_⟩⟩
   by_cases hbe:b=b'
   ·subst hbe
    rw [hfpb] at hf
    obtain ⟨k0,hk0,hk1⟩:=hin j hf
    refine (e5 k0 j (fun e=>?_) hj).1 (hne3 k0 hk0) hk1
    rcases hk0 with e2|e2|e2
    ·exact hk (by rw [← e,e2])
    ·exact n2' (by rw [← e,e2])
    ·exact n3' (by rw [← e,e2])
   ·rw [hfpk b' hbe] at hf
    exact (e5 b' j hbb hj).2 p2 (hold b' hbe _ hp2).1 hf
end
section
variable {P:Program} {ops:Array Oper} {Q:Exit→St→Prop} {n:Nat} {env:List (Nat×AV)} {heap:List (Nat×Option AB)} {nx:Nat} {gl:List (Nat×List CV)} {t E1 s1 n1 E2 s2 n2:Nat} {cl l1 l2:List CV}
theorem aw_ropen {c:Code} (b:Nat) {ca:List AV} (hb:St.H ⟨n,env,heap,nx,gl⟩ b=some (.obj (iE t cl E1 s1 l1 n1 E2 s2 l2 n2))) (hca:cl.map .c++[.vec nx n1,.vec (nx+1) n2]=ca)
  (h:gf P c Q ⟨n,env,(b,some (.cells t ca))::(nx,some (.vec E1 s1 l1))::(nx+1,some (.vec E2 s2 l2))::heap,nx+2,gl⟩):gf P c Q ⟨n,env,heap,nx,gl⟩:=by
 subst hca
 intro base w0 M a hs
 obtain ⟨M',h1,h2,h3⟩:=hs.openR2 hb
 rw [← h1]
 exact Code.wp_mono (fun e a w=>bN.ext h3) (h base w0 M' a h2)
theorem ao_ropen {l:List Oper} (b:Nat) {ca:List AV} (hb:St.H ⟨n,env,heap,nx,gl⟩ b=some (.obj (iE t cl E1 s1 l1 n1 E2 s2 l2 n2))) (hca:cl.map .c++[.vec nx n1,.vec (nx+1) n2]=ca)
  (h:aP P ops Q l ⟨n,env,(b,some (.cells t ca))::(nx,some (.vec E1 s1 l1))::(nx+1,some (.vec E2 s2 l2))::heap,nx+2,gl⟩):aP P ops Q l ⟨n,env,heap,nx,gl⟩:=by
 subst hca
 intro base w0 M a hs
 obtain ⟨M',h1,h2,h3⟩:=hs.openR2 hb
 rw [← h1]
 exact aM (fun e a w=>bN.ext h3) _ _ _ (h base w0 M' a h2)
theorem ib {l:List Oper} (b b1 b2:Nat) (cl:List CV) {ca:List AV} (hb:St.H ⟨n,env,heap,nx,gl⟩ b=some (.cells t ca)) (hca:ca=cl.map .c++[.vec b1 n1,.vec b2 n2]) (hb1:St.H ⟨n,env,heap,nx,gl⟩ b1=some (.vec E1 s1 l1)) (hb2:St.H ⟨n,env,heap,nx,gl⟩ b2=some (.vec E2 s2 l2)) (hl1:l1.length=n1 * s1) (hl2:l2.length=n2 * s2) (hn1:b≠b1) (hn2:b≠b2) (hn3:b1≠b2)
  (h:aP P ops Q l ⟨n,env,(b,some (.obj (iE t cl E1 s1 l1 n1 E2 s2 l2 n2)))::(b1,none)::(b2,none)::heap,nx,gl⟩):aP P ops Q l ⟨n,env,heap,nx,gl⟩:=by
 subst hca
 intro base w0 M a hs
 obtain ⟨M',h1,h2,h3⟩:=hs.closeR2 hb hb1 hb2 hl1 hl2 hn1 hn2 hn3
 rw [← h1]
 exact aM (fun e a w=>bN.ext h3) _ _ _ (h base w0 M' a h2)
end
end Go.Proofs.YtdndfncpglfdeaaGreatDoor.Ev

namespace Go.Proofs.YtdndfncpglfdeaaGreatDoor.Ev
set_option linter.unusedVariables false
set_option linter.unusedSimpArgs false
open Go.RowKit
section
variable {P:Program} {ops:Array Oper} {n:Nat}
def appB (o:Oper):Bool:=match o.op with|.call c=>(match c.callee with|.builtin .append=>true|_=>false)|_=>false
def VStep (P:Program) (ops:Array Oper) (o:Oper) (st:St) (b:Nat) (x:AB) (d:Nat) (y:AV):Prop :=
 o.guard=none∧o.dst=some d∧appB o=true∧∀ s:St,s.n=st.n→s.gl=st.gl→s.H b=st.H b→(∀ z∈o.op.operands,s.ev z=st.ev z)→aP P ops (only (fun s'=>s'=(s.set b x).put d y)) [o] s
theorem VStep.of {o:Oper} {s t:St} {b:Nat} {x:AB} {d:Nat} {y:AV} (h:VStep P ops o s b x d y) (hn:s.n=t.n) (hg:s.gl=t.gl) (hH:s.H b=t.H b) (hev:∀ z∈o.op.operands,s.ev z=t.ev z):VStep P ops o t b x d y :=
 ⟨h.1,h.2.1,h.2.2.1,fun u e1 e2 e3 e4=>h.2.2.2 u (e1.trans hn.symm) (e2.trans hg.symm) (e3.trans hH.symm) (fun z hz=>(e4 z hz).trans (hev z hz).symm)⟩
inductive DG7 (P:Program) (ops:Array Oper) (bs:List Nat) (o:Oper) (st:St):St→Prop
 | q {d:Nat} {y:AV} (h:DY P ops o st d y):DG7 P ops bs o st (st.put d y)
 | s {b:Nat} {x:AB} (hb:b∈bs) (hlt:b < st.nx) (h:SStep P ops o st b x):DG7 P ops bs o st (st.set b x)
 | a {d:Nat} {x:AB} (h:AOp P o d x) (hd:Nat.blt d st.n=true):DG7 P ops bs o st ((st.new x).put d (.ptr st.nx 0))
 | v {b d:Nat} {x:AB} {y:AV} (hb:b∈bs) (hlt:b < st.nx) (h:VStep P ops o st b x d y):DG7 P ops bs o st ((st.set b x).put d y)
variable {bs:List Nat}
theorem DG7.eq {o:Oper} {s t s':St} (h:DG7 P ops bs o s s') (e:StEq2 s t):∃ t',DG7 P ops bs o t t'∧StEq2 s' t':=by
 cases h with
 | q h=>exact ⟨_,.q (h.eq2 e),e.put _ _⟩
 | s hb hlt h=>exact ⟨_,.s hb (by rw [← e.nx];exact hlt) (h.of e.n e.gl (e.H _) (fun z _=>e.ev z)),e.set _ _⟩
 | a h hd=>exact ⟨_,.a h (by rw [← e.n];exact hd),by rw [e.nx];exact (e.new _).put _ _⟩
 | v hb hlt h=>exact ⟨_,.v hb (by rw [← e.nx];exact hlt) (h.of e.n e.gl (e.H _) (fun z _=>e.ev z)),(e.set _ _).put _ _⟩
def cE (P:Program) (ops:Array Oper) (bs:List Nat) (L:Array Bool→St→Prop):Nat→Array Bool→St→Prop
 | 0,listed,st=>L listed st
 | f+1,listed,st=>Region.ready .any ops listed≠[]∧∀ i∈Region.ready .any ops listed,∃ o st',ops[i]?=some o∧DG7 P ops bs o st st'∧cE P ops bs L f (listed.setIfInBounds i true) st'
variable {L:Array Bool→St→Prop}
theorem cE.eq (hL:∀ listed s t,StEq2 s t→L listed s→L listed t):∀ (f:Nat) (listed:Array Bool) (s t:St),StEq2 s t→cE P ops bs L f listed s→cE P ops bs L f listed t
 | 0,listed,s,t,e,h=>hL listed s t e h
 | f+1,listed,s,t,e,h=>⟨h.1,fun i hi=>by
  obtain ⟨o,s',h2,h3,h4⟩:=h.2 i hi
  obtain ⟨t',h5,h6⟩:=h3.eq e
  exact ⟨o,t',h2,h5,cE.eq hL f _ _ _ h6 h4⟩⟩
def Loose7 (P:Program) (ops:Array Oper) (bs:List Nat) (i:Nat) (o:Oper) (st:St) (d:Nat) (y:AV):Prop :=
 DY P ops o (st.hide bs) d y∨(DY P ops o st d y∧∀ (k:Nat) (ok:Oper),ops[k]?=some ok→(ok.dst=none∨appB ok=true)→upB ops 8 i ok=true)
theorem Loose7.dy {i:Nat} {o:Oper} {st:St} {d:Nat} {y:AV} (h:Loose7 P ops bs i o st d y):DY P ops o st d y:=by
 rcases h with h|h
 ·exact unhide h
 ·exact h.1
theorem DAny7_first {i:Nat} {oi:Oper} (hi:ops[i]?=some oi) (hL:∀ listed s t,StEq2 s t→L listed s→L listed t) (hdone:∀ listed st,L listed st→Region.ready .any ops listed=[]) :
  ∀ (f:Nat) (listed:Array Bool) (st:St) (d:Nat) (y:AV),Cl ops listed→Fr st →
   (∀ j oj,ops[j]?=some oj→j≠i→listed.getD j true=false→(∀ e∈oj.after,Region.binds .any e=true→e.on≠i)→oi.apart ops oj=true) →
   i∈Region.ready .any ops listed→Loose7 P ops bs i oi st d y→cE P ops bs L f (listed.setIfInBounds i true) (st.put d y)→cE P ops bs L (f+1) listed st:=by
 intro f
 induction f with
 | zero =>
  intro listed st d y cl fr hfree hr hy H
  refine ⟨fun h0=>(by rw [h0] at hr;cases hr),fun j hj=>?_⟩
  by_cases hji:j=i
  ·subst hji;exact ⟨oi,_,hi,.q hy.dy,H⟩
  ·have:=ready_mono hj hji
   rw [hdone _ _ H] at this;cases this
 | succ f ih =>
  intro listed st d y cl fr hfree hr hy H
  refine ⟨fun h0=>(by rw [h0] at hr;cases hr),fun j hj=>?_⟩
  by_cases hji:j=i
  ·subst hji;exact ⟨oi,_,hi,.q hy.dy,H⟩
  ·obtain ⟨oj,sj,h2,h3,h4⟩:=H.2 j (ready_mono hj hji)
   obtain ⟨hjun,oj',hoj,hall⟩:=mem_ready.1 hj
   have hoo:oj'=oj:=Option.some.inj (hoj.symm.trans h2)
   subst hoo
   have hnot:∀ e∈oj'.after,Region.binds .any e=true→e.on≠i:=fun e he hb heq=>by
    have h1:=hall e he hb
    have h0:=getD_both (mem_ready.1 hr).1
    rw [heq,h0] at h1
    cases h1
   obtain ⟨a1,a2,a3⟩:=Oper.apart_spec (hfree j oj' hoj hji hjun hnot)
   have hdi:oi.dst=some d:=hy.dy.1
   have hfree':∀ k ok,ops[k]?=some ok→k≠i→(listed.setIfInBounds j true).getD k true=false→(∀ e∈ok.after,Region.binds .any e=true→e.on≠i)→oi.apart ops ok=true:=fun k ok hk hki hun hno=>by
    refine hfree k ok hk hki ?_ hno
    by_cases hjk:j=k
    ·subst hjk;exact hjun
    ·rw [getD_set_ne true hjk] at hun;exact hun
   cases h3 with
   | @q dj yj h3 =>
    have hdj:oj'.dst=some dj:=h3.1
    have hne:d≠dj:=fun e=>a2 d hdi (by rw [hdj,e])
    have h3':DY P ops oj' st dj yj:=h3.unput (a1 d hdi)
    have hy':Loose7 P ops bs i oi (st.put dj yj) d y:=hy.imp (fun h=>DY.put (s:=st.hide bs) h yj (a3 dj hdj)) (fun ⟨h,b⟩=>⟨h.put yj (a3 dj hdj),b⟩)
    refine ⟨oj',_,h2,.q h3',?_⟩
    refine ih (listed.setIfInBounds j true) (st.put dj yj) d y (cl.set hj) (fr.put _ _) hfree' (ready_mono hr (Ne.symm hji)) hy' ?_
    rw [Array.setIfInBounds_comm _ _ hji]
    exact cE.eq hL f _ _ _ (StEq2.comm st hne y yj) h4
   | @a dj x h3 hd3 =>
    have hdj:oj'.dst=some dj:=h3.2.1
    have hne:d≠dj:=fun e=>a2 d hdi (by rw [hdj,e])
    have hy1:DY P ops oi (st.hide bs) d y→DY P ops oi ((st.new x).hide bs) d y:=fun hy=>hy.of rfl (fun b' z hz=>by
     rw [f9] at hz ⊢
     by_cases hm:b'∈bs
     ·rw [if_pos hm] at hz;cases hz
     ·rw [if_neg hm] at hz ⊢
      rw [fq,if_neg]
      ·exact hz
      ·intro e;subst e;rw [fr _ (Nat.le_refl _)] at hz;cases hz) rfl (fun z _=>by cases z<;>rfl) (fun _ _ _ _ _=>rfl)
    have hy':Loose7 P ops bs i oi ((st.new x).put dj (.ptr st.nx 0)) d y:=hy.imp (fun h=>DY.put (s:=(st.new x).hide bs) (hy1 h) _ (a3 dj hdj)) (fun ⟨h,b⟩=>⟨(h.new fr x).put _ (a3 dj hdj),b⟩)
    refine ⟨oj',_,h2,.a h3 hd3,?_⟩
    refine ih (listed.setIfInBounds j true) ((st.new x).put dj (.ptr st.nx 0)) d y (cl.set hj) ((fr.new x).put _ _) hfree' (ready_mono hr (Ne.symm hji)) hy' ?_
    rw [Array.setIfInBounds_comm _ _ hji]
    exact cE.eq hL f _ _ _ (StEq2.comm (st.new x) hne y _) h4
   | @v b dj x yj hb hlt h3 =>
    obtain ⟨l1,l2⟩:=ix (a1 d hdi)
    rcases hy with hy|⟨_,hbar⟩
    rotate_left
    ·have:=up_listed cl 8 oj' (hbar j oj' hoj (.inr h3.2.2.1)) hall
     rw [getD_both (mem_ready.1 hr).1] at this;cases this
    have hdj:oj'.dst=some dj:=h3.2.1
    have hne:d≠dj:=fun e=>a2 d hdi (by rw [hdj,e])
    have hy1:DY P ops oi ((st.set b x).hide bs) d y:=hy.of rfl (fun b' z hz=>by
     rw [f9] at hz ⊢
     by_cases hm:b'∈bs
     ·rw [if_pos hm] at hz;cases hz
     ·rw [if_neg hm] at hz ⊢
      rw [H_set,if_neg (fun e=>hm (by rw [← e];exact hb))];exact hz) rfl (fun z _=>by cases z<;>rfl) (fun _ _ _ _ _=>rfl)
    refine ⟨oj',_,h2,.v hb hlt (h3.of rfl rfl rfl (fun z hz=>ev_put (l1 z hz))),?_⟩
    refine ih (listed.setIfInBounds j true) ((st.set b x).put dj yj) d y (cl.set hj) ((fr.set hlt x).put _ _) hfree' (ready_mono hr (Ne.symm hji)) (Or.inl (DY.put (s:=(st.set b x).hide bs) hy1 _ (a3 dj hdj))) ?_
    rw [Array.setIfInBounds_comm _ _ hji]
    exact cE.eq hL f _ _ _ (StEq2.comm (st.set b x) hne y _) h4
   | @s b x hb hlt h3 =>
    obtain ⟨l1,l2⟩:=ix (a1 d hdi)
    rcases hy with hy|⟨_,hbar⟩
    rotate_left
    ·have:=up_listed cl 8 oj' (hbar j oj' hoj (.inl h3.2.1)) hall
     rw [getD_both (mem_ready.1 hr).1] at this;cases this
    refine ⟨oj',_,h2,.s hb hlt (h3.of rfl rfl rfl (fun z hz=>ev_put (l1 z hz))),?_⟩
    refine ih (listed.setIfInBounds j true) (st.set b x) d y (cl.set hj) (fr.set hlt x) hfree' (ready_mono hr (Ne.symm hji)) (Or.inl (hy.of rfl (fun b' z hz=>?_) rfl (fun z _=>by cases z<;>rfl) (fun _ _ _ _ _=>rfl))) ?_
    ·rw [f9] at hz ⊢
     by_cases hm:b'∈bs
     ·rw [if_pos hm] at hz;cases hz
     ·rw [if_neg hm] at hz ⊢
      rw [H_set,if_neg (fun e=>hm (by rw [← e];exact hb))];exact hz
    ·rw [Array.setIfInBounds_comm _ _ hji]
     exact h4
theorem DG7.wp {base:Nat} {w0:W0} {st st':St} {M:Wd} {a:Act} {i:Nat} {o:Oper} {K:Act→World→Prop} {Q':Exit→Act→World→Prop} (hi:ops[i]?=some o) (h:DG7 P ops bs o st st') (hs:Sim base w0 st M a)
  (hK:∀ M' a',Ext M M'→Sim base w0 st' M' a'→K a' M'.w):wpOp P ops Q' i K a M.w:=by
 cases h with
 | q h=>exact h.wp hi hs hK
 | @a d x h hd =>
  obtain ⟨g,hdst,hrun⟩:=h
  obtain ⟨u,c,arr,t,e1,e2,e3⟩:=hrun st base w0 M a hs
  unfold wpOp
  simp only [hi]
  rw [if_pos (by simp [Region.wanted,g])]
  refine .inl ?_
  unfold Oper.wp
  rw [e1]
  have:=hK (M.new st x c (.cells arr t)) (a.put o.dst u) (hs.extNew x c _) (by rw [hdst];exact e2.put hd e3)
  exact this
 | @v b d x y hb hlt h =>
  have hl:=h.2.2.2 st rfl rfl rfl (fun _ _=>rfl) base w0 M a hs
  have hw:Region.wanted o (yielded ops a.tmps)=true:=by simp [Region.wanted,h.1]
  unfold wpList at hl
  rw [if_pos hw] at hl
  unfold wpOp
  simp only [hi]
  rw [if_pos hw]
  rcases hl with hl|⟨_,a',w',M',st',_,_,_,hf⟩
  ·refine .inl (eY (fun a' w' hk=>?_) (fun e a' w' hne hq=>?_) hl)
   ·obtain ⟨M',st',e1,e2,e3,e4⟩:=hk
    subst e1
    have e4:st'=_:=e4
    subst e4
    exact hK M' a' e3 e2
   ·obtain ⟨M',st',e1,e2,e3,e4⟩:=hq
    cases e<;>first|exact absurd rfl hne|exact e4.elim
  ·exact hf.elim
 | @s b x hb hlt h =>
  have hl:=h.2.2 st rfl rfl rfl (fun _ _=>rfl) base w0 M a hs
  have hw:Region.wanted o (yielded ops a.tmps)=true:=by simp [Region.wanted,h.1]
  unfold wpList at hl
  rw [if_pos hw] at hl
  unfold wpOp
  simp only [hi]
  rw [if_pos hw]
  rcases hl with hl|⟨_,a',w',M',st',_,_,_,hf⟩
  ·refine .inl (eY (fun a' w' hk=>?_) (fun e a' w' hne hq=>?_) hl)
   ·obtain ⟨M',st',e1,e2,e3,e4⟩:=hk
    subst e1
    have e4:st'=_:=e4
    subst e4
    exact hK M' a' e3 e2
   ·obtain ⟨M',st',e1,e2,e3,e4⟩:=hq
    cases e<;>first|exact absurd rfl hne|exact e4.elim
  ·exact hf.elim
theorem wpAny_of_DAny7 {base:Nat} {w0:W0} {M0:Wd} {Q:Exit→St→Prop} (hL:∀ listed st M a,L listed st→Sim base w0 st M a→Ext M0 M→wpAny P .any ops (bN base w0 M0 Q) 0 listed a M.w) :
  ∀ (f:Nat) (listed:Array Bool) (st:St) (M:Wd) (a:Act),Sim base w0 st M a→Ext M0 M→cE P ops bs L f listed st→wpAny P .any ops (bN base w0 M0 Q) f listed a M.w
 | 0,listed,st,M,a,hs,he,h=>hL _ _ _ _ h hs he
 | f+1,listed,st,M,a,hs,he,h=>by
  refine ⟨fun h0=>absurd h0 h.1,fun i hi=>?_⟩
  obtain ⟨o,st',h1,h2,h3⟩:=h.2 i hi
  exact h2.wp h1 hs fun M' a' hext hs'=>wpAny_of_DAny7 hL f _ _ M' a' hs' (he.trans hext) h3
def gQ (P:Program) (ops:Array Oper) (Q:Exit→St→Prop):Array Bool→St→Prop:=fun listed st=>Region.ready .any ops listed=[]∧aP P ops Q [] st
theorem endsA7_eq {Q:Exit→St→Prop}:∀ listed s t,StEq2 s t→gQ P ops Q listed s→gQ P ops Q listed t:=fun _ _ _ e hh=>⟨hh.1,fun base w0 M a hs'=>hh.2 base w0 M a (e.symm.sim hs')⟩
theorem DAny7_ord {k:Nat} {Q:Exit→St→Prop} {hp:List (Nat×Option AB)}:∀ (is:List Nat) (listed:Array Bool) (st:St),st.heap=hp→Cl ops listed→Fr st→i0 .any ops (fun _=>true) is listed=true →
  bW P ops (fun s=>cE P ops bs (gQ P ops Q) k (bZ is listed) { s with heap:=hp }) (pk ops.toList is) (st.hide bs)→cE P ops bs (gQ P ops Q) (is.length+k) listed st
 | [],listed,st,hhp,_,_,_,h=>by
  rw [List.length_nil,Nat.zero_add]
  have h:cE P ops bs (gQ P ops Q) k listed { st.hide bs with heap:=hp }:=h
  rw [← hhp] at h
  exact h
 | i::is,listed,st,hhp,cl,fr,hB,h=>by
  unfold i0 at hB
  simp only [Bool.and_eq_true] at hB
  obtain ⟨⟨hr,hf⟩,hB'⟩:=hB
  have hr':i∈Region.ready .any ops listed:=by simpa using hr
  obtain ⟨_,o,h0,_⟩:=mem_ready.1 hr'
  rw [iJ (by simpa using h0)] at h
  obtain ⟨d,y,hy,hK⟩:=h
  have:=DAny7_first h0 endsA7_eq (fun listed' st' hL=>hL.1) (is.length+k) listed st d y cl fr (Region.free_spec h0 hf) hr' (Or.inl hy)
   (DAny7_ord is _ (st.put d y) hhp (cl.set hr') (fr.put _ _) hB' hK)
  rw [List.length_cons,show is.length+1+k=is.length+k+1 by omega]
  exact this
def barB7 (ops:Array Oper) (i:Nat):Bool:=ops.toList.all fun o=>(o.dst.isSome && !appB o) || upB ops 8 i o
theorem bar_of7 {i:Nat} (h:barB7 ops i=true):∀ (k:Nat) (ok:Oper),ops[k]?=some ok→(ok.dst=none∨appB ok=true)→upB ops 8 i ok=true:=by
 intro k ok hk hd
 have hm:ok∈ops.toList:=by
  obtain ⟨hl,he⟩:=Array.getElem?_eq_some_iff.1 hk
  rw [← he];exact Array.getElem_mem_toList hl
 have:=List.all_eq_true.1 h ok hm
 rcases hd with hd|hd
 ·rw [hd] at this
  simpa using this
 ·rw [hd] at this
  simpa using this
theorem DAny7_ord1 {k:Nat} {Q:Exit→St→Prop} {E:St→Prop} {rest:Array Bool→Bool} {hp:List (Nat×Option AB)}:∀ (is:List Nat) (listed:Array Bool) (st:St),(∀ st,Cl ops (bZ is listed)→Fr st→st.heap=hp→rest (bZ is listed)=true→E st→cE P ops bs (gQ P ops Q) k (bZ is listed) st)→Cl ops listed→Fr st→st.heap=hp→is.all (barB7 ops)=true→i0 .any ops rest is listed=true →
  bW P ops E (pk ops.toList is) st→cE P ops bs (gQ P ops Q) (is.length+k) listed st
 | [],listed,st,hE,cl,fr,hhp,_,hB,h=>by
  rw [List.length_nil,Nat.zero_add]
  exact hE st cl fr hhp hB h
 | i::is,listed,st,hE,cl,fr,hhp,hb,hB,h=>by
  unfold i0 at hB
  simp only [Bool.and_eq_true] at hB
  obtain ⟨⟨hr,hf⟩,hB'⟩:=hB
  simp only [List.all_cons,Bool.and_eq_true] at hb
  have hr':i∈Region.ready .any ops listed:=by simpa using hr
  obtain ⟨_,o,h0,_⟩:=mem_ready.1 hr'
  rw [iJ (by simpa using h0)] at h
  obtain ⟨d,y,hy,hK⟩:=h
  have:=DAny7_first h0 endsA7_eq (fun listed' st' hL=>hL.1) (is.length+k) listed st d y cl fr (Region.free_spec h0 hf) hr' (Or.inr ⟨hy,bar_of7 hb.1⟩)
   (DAny7_ord1 is _ (st.put d y) hE (cl.set hr') (fr.put _ _) hhp hb.2 hB' hK)
  rw [List.length_cons,show is.length+1+k=is.length+k+1 by omega]
  exact this
def drawA7B (ops:Array Oper) (is js:List Nat) (k:Nat):Bool:=Region.noSelect ops && Nat.beq (is.length+(js.length+k)) ops.size && is.all (barB7 ops) && i0 .any ops (fun listed=>i0 .any ops (fun _=>true) js listed) is (Array.replicate ops.size false)
theorem fT {id:Nat} {l:List Oper} {Q:Exit→St→Prop} {nn nx:Nat} {env:List (Nat×AV)} {heap:List (Nat×Option AB)} {gl:List (Nat×List CV)} [m:Mixed P] (bs is js:List Nat) (k:Nat) (listed0:Array Bool) (hB:drawA7B l.toArray is js k=true) (h0:listed0=bZ js (bZ is (Array.replicate l.length false))) (hf:frB heap nx=true)
  (h:bW P l.toArray (fun s=>bW P l.toArray (fun s=>cE P l.toArray bs (gQ P l.toArray Q) k listed0 { s with heap:=heap }) (pk l js) { s with heap:=bs.map (fun b=>(b,none))++heap }) (pk l is) ⟨nn,env,heap,nx,gl⟩):gf P (.region id l.toArray true) Q ⟨nn,env,heap,nx,gl⟩:=by
 simp only [drawA7B,Bool.and_eq_true] at hB
 obtain ⟨⟨⟨hsel,hlen⟩,hbar⟩,hord⟩:=hB
 have hlen:=cu hlen
 intro base w0 M a hs
 subst h0
 have hsz:l.length=l.toArray.size:=by simp
 rw [hsz] at h
 have H:=DAny7_ord1 (P:=P) (ops:=l.toArray) (bs:=bs) (k:=js.length+k) (Q:=Q) (hp:=heap) (rest:=fun listed=>i0 .any l.toArray (fun _=>true) js listed) (E:=fun s=>bW P l.toArray (fun s=>cE P l.toArray bs (gQ P l.toArray Q) k (bZ js (bZ is (Array.replicate l.toArray.size false))) { s with heap:=heap }) (pk l js) { s with heap:=bs.map (fun b=>(b,none))++heap }) is _ ⟨nn,env,heap,nx,gl⟩
  (fun st cl fr hhp hB hE=>DAny7_ord (hp:=heap) js _ st hhp cl fr hB (by
   have e:st.hide bs={ st with heap:=bs.map (fun b=>(b,none))++heap }:=by unfold St.hide;rw [hhp]
   rw [e];exact hE)) (cl_0 _) (fr_of hf) rfl hbar hord h
 refine wp_region_any m.h ?_
 have:=wpAny_of_DAny7 (P:=P) (ops:=l.toArray) (bs:=bs) (base:=base) (w0:=w0) (M0:=M) (Q:=Q) (fun listed st' M' a' hL hs' he=>by
  have h1:=aM (fun e a w=>bN.ext he) _ _ _ (hL.2 base w0 M' a' hs')
  exact ⟨hL.1,h1⟩) (is.length+(js.length+k)) (Array.replicate l.toArray.size false) _ M.drew a hs.drew (Ext.drew M) H
 rw [hlen] at this
 exact this
theorem fV {nn nx:Nat} {env:List (Nat×AV)} {heap' heap2:List (Nat×Option AB)} {gl:List (Nat×List CV)} {E:St→Prop} {qs:List Oper} (h:bW P ops E qs ⟨nn,env,heap2,nx,gl⟩):bW P ops (fun s=>bW P ops E qs { s with heap:=heap2 }) [] ⟨nn,env,heap',nx,gl⟩:=h
section
variable {i nn nx k:Nat} {env:List (Nat×AV)} {heap:List (Nat×Option AB)} {gl:List (Nat×List CV)} {listed:Array Bool} {ty:TypeId} {pos:String} {af:Array Edge}
def D7 (P:Program) (ops:Array Oper) (bs:List Nat) (L:Array Bool→St→Prop) (k i:Nat) (listed:Array Bool) (st:St):Prop :=
 ∃ o st',ops[i]?=some o∧DG7 P ops bs o st st'∧cE P ops bs L k (listed.setIfInBounds i true) st'
theorem hU {heap':List (Nat×Option AB)} (h:cE P ops bs L k listed ⟨nn,env,heap,nx,gl⟩):bW P ops (fun s=>cE P ops bs L k listed { s with heap:=heap }) [] ⟨nn,env,heap',nx,gl⟩:=h
theorem aI {st:St} (is:List Nat) (hr:Region.ready .any ops listed=is) (hne:is.isEmpty=false) (h:∀ i∈is,D7 P ops bs L k i listed st):cE P ops bs L (k+1) listed st :=
 ⟨fun h0=>(by rw [hr] at h0;subst h0;cases hne),fun i hi=>h i (by rw [← hr];exact hi)⟩
theorem d7_none {st:St}:∀ i∈([]:List Nat),D7 P ops bs L k i listed st:=fun _ h=>by cases h
theorem d7_nil {Q:Exit→St→Prop} {st:St} (hr:Region.ready .any ops listed=[]) (h:aP P ops Q [] st):cE P ops bs (gQ P ops Q) 0 listed st:=⟨hr,h⟩
theorem d7_a {d:Nat} {t:TypeId} {zs:List Value} (hi:ops[i]?=some ⟨some d,.alloc t,ty,pos,af,none⟩) (I:ZeroT P t zs) (hd:Nat.blt d nn=true) (h:cE P ops bs L k (listed.setIfInBounds i true) ⟨nn,(d,.ptr nx 0)::env,(nx,some (.cells t (zs.map fun z=>.c (.v z))))::heap,nx+1,gl⟩):D7 P ops bs L k i listed ⟨nn,env,heap,nx,gl⟩ :=
 ⟨_,_,hi,.a (d:=d) (x:=.cells t (zs.map fun z=>.c (.v z))) (br (I:=I)) hd,h⟩
theorem d7_pa {x z:Operand} {t n' b off:Nat} {ag:Bool} {t':TypeId} {l ys:List AV} (hi:ops[i]?=some ⟨none,.store t x z,ty,pos,af,none⟩) (I:TyC P t ag n') (hx:St.ev ⟨nn,env,heap,nx,gl⟩ x=some (.ptr b off)) (hz:St.ev ⟨nn,env,heap,nx,gl⟩ z=some (.agg ys)) (hc:ys.all AV.cellB=true) (h1:ys.length=n') (hH:St.H ⟨nn,env,heap,nx,gl⟩ b=some (.cells t' l)) (hl:Nat.ble (off+n') l.length=true) (hb:bs.contains b=true) (hlt:Nat.blt b nx=true)
  (h:cE P ops bs L k (listed.setIfInBounds i true) ⟨nn,env,(b,some (.cells t' (bA l ys off)))::heap,nx,gl⟩):D7 P ops bs L k i listed ⟨nn,env,heap,nx,gl⟩ :=
 ⟨_,_,hi,.s (b:=b) (x:=.cells t' (bA l ys off)) (by simpa using hb) (ba hlt) ⟨rfl,rfl,fun s e1 e2 e3 e4=>gF (l:=l) (t':=t') (st:=s) ((e4 x (by simp [Op.operands])).trans hx) ((e4 z (by simp [Op.operands])).trans hz) hc h1 (e3.trans hH) hl (ao_nil (dI rfl))⟩,h⟩
theorem d7_app {α:Type} {enc:α→List CV} {s x:Operand} {d t E size bytes b n':Nat} {l l2:List α} (hi:ops[i]?=some ⟨some d,.call ⟨.builtin .append,#[s,x],#[t,t]⟩,ty,pos,af,none⟩) (I:SlT P t E size bytes) (hs0:St.ev ⟨nn,env,heap,nx,gl⟩ s=some (.vec b n')) (hH:St.H ⟨nn,env,heap,nx,gl⟩ b=some (.vec E size (l.flatMap enc))) (J:EncL enc size) (hn:l.length=n') (hx:St.ev ⟨nn,env,heap,nx,gl⟩ x=some (.c (.lst size (l2.flatMap enc)))) (hm:n'+l2.length < 1000000000000) (hm2:(n'+l2.length) * bytes≤140737488355328) (hd:Nat.blt d nn=true) (hb:bs.contains b=true) (hlt:Nat.blt b nx=true)
  (h:cE P ops bs L k (listed.setIfInBounds i true) ⟨nn,(d,.vec b (n'+l2.length))::env,(b,some (.vec E size ((l++l2).flatMap enc)))::heap,nx,gl⟩):D7 P ops bs L k i listed ⟨nn,env,heap,nx,gl⟩ :=
 ⟨_,_,hi,.v (b:=b) (x:=.vec E size ((l++l2).flatMap enc)) (d:=d) (y:=.vec b (n'+l2.length)) (by simpa using hb) (ba hlt) ⟨rfl,rfl,rfl,fun u e1 e2 e3 e4=>ao_appendl (I:=I) (st:=u) ((e4 s (by simp [Op.operands,Call.operands])).trans hs0) (e3.trans hH) J hn ((e4 x (by simp [Op.operands,Call.operands])).trans hx) hm hm2 (by rw [e1];exact hd) (ao_nil (dI rfl))⟩,h⟩
theorem d7_q {l:List Oper} {st:St} (hlt:Nat.blt i l.length=true) (h:bW P l.toArray (fun s=>cE P l.toArray bs L k (listed.setIfInBounds i true) s) (pk l [i]) st):D7 P l.toArray bs L k i listed st:=by
 have hlt:=ba hlt
 rw [iJ (List.getElem?_eq_getElem hlt)] at h
 obtain ⟨d,y,hy,hK⟩:=h
 exact ⟨_,_,by simp [hlt],.q hy,hK⟩
theorem fR {st:St} (h:cE P ops bs L k listed st):bW P ops (fun s=>cE P ops bs L k listed s) [] st:=h
theorem d7_p {x z:Operand} {t n' b off:Nat} {ag:Bool} {t':TypeId} {l:List AV} {y:AV} (hi:ops[i]?=some ⟨none,.store t x z,ty,pos,af,none⟩) (I:TyC P t ag n') (hx:St.ev ⟨nn,env,heap,nx,gl⟩ x=some (.ptr b off)) (hz:St.ev ⟨nn,env,heap,nx,gl⟩ z=some y) (hc:y.cellB=true) (h1:n'=1) (hH:St.H ⟨nn,env,heap,nx,gl⟩ b=some (.cells t' l)) (hl:Nat.blt off l.length=true) (hb:bs.contains b=true) (hlt:Nat.blt b nx=true)
  (h:cE P ops bs L k (listed.setIfInBounds i true) ⟨nn,env,(b,some (.cells t' (l.set off y)))::heap,nx,gl⟩):D7 P ops bs L k i listed ⟨nn,env,heap,nx,gl⟩ :=
 ⟨_,_,hi,.s (b:=b) (x:=.cells t' (l.set off y)) (by simpa using hb) (ba hlt) ⟨rfl,rfl,fun s e1 e2 e3 e4=>iN (l:=l) (t':=t') (st:=s) ((e4 x (by simp [Op.operands])).trans hx) ((e4 z (by simp [Op.operands])).trans hz) hc h1 (e3.trans hH) hl (ao_nil (dI rfl))⟩,h⟩
end
end
end Go.Proofs.YtdndfncpglfdeaaGreatDoor.Ev
