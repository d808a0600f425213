/- Ev52 Ev53 Ev54 Ev55 Ev60 Ev61 Ev62 Ev63 Ev64 Ev65 Ev21: texts laid together. -/
import Derived.Test.YtdndfncpglfdeaaGreatDoorMrgE4
import Derived.RangeFuncRecord
import Derived.RangeFuncCalls
import Derived.OrdersIn
import Derived.TacticsIn
import Derived.WalkSmall
import Derived.Test.YtdndfncpglfdeaaGreatDoorMrgE3

namespace Go.Proofs.YtdndfncpglfdeaaGreatDoor.Ev
set_option linter.unusedVariables false
set_option linter.unusedSimpArgs false
open Go.RowKit
def eM (π:List (Nat×Nat)) (b:Nat):Nat:=match bf b π with|some c=>c|none=>b
def AV.ren (π:List (Nat×Nat)):AV→AV
 | .c x=>.c x
 | .agg xs=>.agg (renL π xs)
 | .tup xs=>.tup (renL π xs)
 | .ptr b off=>.ptr (eM π b) off
 | .vec b n=>.vec (eM π b) n
 | .vptr b n off=>.vptr (eM π b) n off
 | .eptr xs off=>.eptr xs off
 | .fn f xs=>.fn f (renL π xs)
 | .ghost b n v=>.ghost (eM π b) n v
 | .ref b f=>.ref (eM π b) f
 where renL (π:List (Nat×Nat)):List AV→List AV
 | []=>[]
 | x::l=>AV.ren π x::renL π l
theorem renL_len {π:List (Nat×Nat)}:∀ (xs:List AV),(AV.ren.renL π xs).length=xs.length
 | []=>rfl
 | _::l=>by simp only [AV.ren.renL,List.length_cons];rw [renL_len l]
theorem renL_get {π:List (Nat×Nat)}:∀ {xs:List AV} {i:Nat} {x:AV},xs[i]?=some x→(AV.ren.renL π xs)[i]?=some (x.ren π)
 | [],i,x,h=>by simp at h
 | y::l,0,x,h=>by simp at h;subst h;rfl
 | y::l,i+1,x,h=>renL_get (xs:=l) (by simpa using h)
def abRen (π:List (Nat×Nat)):AB→AB
 | .cells t l=>.cells t (AV.ren.renL π l)
 | .vec E size l=>.vec E size l
 | .obj p=>.obj p
structure Ren (π:List (Nat×Nat)) (nx0:Nat) (s s':St):Prop where
 n:s'.n=s.n
 gl:s'.gl=s.gl
 lo:nx0≤s'.nx
 id:∀ b,b < nx0→eM π b=b
 env:∀ i x,bf i s'.env=some x→bf i s.env=some (x.ren π)∧AV.lt s'.nx x=true
 heap:∀ b x,s'.H b=some x→s.H (eM π b)=some (abRen π x)∧b < s'.nx∧abLt s'.nx x=true
 inj:∀ b b',s'.H b≠none→s'.H b'≠none→eM π b=eM π b'→b=b'
def Wd.ren (M:Wd) (π:List (Nat×Nat)) (s:St):Wd:={ m:=fun b=>if b < s.nx then M.m (eM π b) else .row undef,H:=s.H,nx:=s.nx,F:=M.F,w:=M.w,fp:=fun b=>M.fp (eM π b) }
theorem RA.ren {M:Wd} {π:List (Nat×Nat)} {nx0:Nat} {s s':St} (hH:M.H=s.H) (hw:Ren π nx0 s s') {y:AV} {u:Value} (h:RA M y u):∀ x,x.ren π=y→AV.lt s'.nx x=true→RA (M.ren π s') x u:=by
 have hv:∀ b E size l,s'.H b=some (.vec E size l)→M.H (eM π b)=some (.vec E size l):=fun b E size l hl=>by
  rw [hH];exact (hw.heap b _ hl).1
 have hm:∀ b,b < s'.nx→(M.ren π s').m b=M.m (eM π b):=fun b hb=>by simp only [Wd.ren];rw [if_pos hb]
 induction h with
 | c h=>intro x hx hlt;cases x<;>simp only [AV.ren] at hx<;>cases hx;exact .c h
 | agg hl _ ih =>
  intro x hx hlt
  cases x<;>simp only [AV.ren] at hx<;>cases hx
  exact .agg (by rw [← hl,renL_len]) (fun i x u h1 h2=>ih i _ u (renL_get h1) h2 x rfl (fJ hlt i x h1))
 | tup hl _ ih =>
  intro x hx hlt
  cases x<;>simp only [AV.ren] at hx<;>cases hx
  exact .tup (by rw [← hl,renL_len]) (fun i x u h1 h2=>ih i _ u (renL_get h1) h2 x rfl (fJ hlt i x h1))
 | fn hl _ ih =>
  intro x hx hlt
  cases x<;>simp only [AV.ren] at hx<;>cases hx
  exact .fn (by rw [← hl,renL_len]) (fun i x u h1 h2=>ih i _ u (renL_get h1) h2 x rfl (fJ hlt i x h1))
 | ptr hb =>
  intro x hx hlt
  cases x<;>simp only [AV.ren] at hx<;>cases hx
  exact .ptr (by rw [hm _ (ba hlt)];exact hb)
 | vec hb ho h =>
  intro x hx hlt
  cases x<;>simp only [AV.ren] at hx<;>cases hx
  have hlt:=ba hlt
  refine .vec hlt ho (fun E size l hl=>?_)
  obtain ⟨h1,h2⟩:=h E size l (hv _ _ _ _ hl)
  exact ⟨h1,fun hh=>by rw [hm _ hlt];exact h2 hh⟩
 | vptr hb ho h =>
  intro x hx hlt
  cases x<;>simp only [AV.ren] at hx<;>cases hx
  have hlt:=ba hlt
  refine .vptr hlt ho (fun E size l hl=>?_)
  obtain ⟨h1,h2⟩:=h E size l (hv _ _ _ _ hl)
  exact ⟨h1,fun hh=>by rw [hm _ hlt];exact h2 hh⟩
 | eptr cs hF hcell hr=>intro x hx hlt;cases x<;>simp only [AV.ren] at hx<;>cases hx;exact .eptr cs hF hcell hr
 | ghost hb ho h =>
  intro x hx hlt
  cases x<;>simp only [AV.ren] at hx<;>cases hx
  have hlt:=ba hlt
  refine .ghost hlt ho (fun E size l hl=>?_)
  obtain ⟨h1,h2⟩:=h E size l (hv _ _ _ _ hl)
  exact ⟨h1,fun hh=>by rw [hm _ hlt];exact h2 hh⟩
 | ref hb ho =>
  intro x hx hlt
  cases x<;>simp only [AV.ren] at hx<;>cases hx
  exact .ref (by rw [hm _ (ba hlt)];exact hb) ho
theorem Sim.ren {base:Nat} {w0:W0} {π:List (Nat×Nat)} {nx0:Nat} {s s':St} {M:Wd} {a:Act} (h:Sim base w0 s M a) (hw:Ren π nx0 s s'):Sim base w0 s' (M.ren π s') a:=by
 have hget:∀ b x,s'.H b=some x→M.H (eM π b)=some (abRen π x)∧b < s'.nx∧abLt s'.nx x=true:=fun b x hx=>by
  rw [h.H];exact hw.heap b x hx
 have hne:∀ b,s'.H b≠none→M.H (eM π b)≠none∧b < s'.nx:=fun b hb=>by
  cases hx:s'.H b with
  | none=>exact absurd hx hb
  | some x=>exact ⟨by rw [(hget b x hx).1];simp,(hget b x hx).2.1⟩
 have hm:∀ b,b < s'.nx→(M.ren π s').m b=M.m (eM π b):=fun b hb=>by simp only [Wd.ren];rw [if_pos hb]
 have hdiff:∀ b b',b≠b'→s'.H b≠none→s'.H b'≠none→eM π b≠eM π b':=fun b b' hbb h1 h2 e=>hbb (hw.inj b b' h1 h2 e)
 refine ⟨rfl,rfl,by rw [h.n,hw.n],fun i x hx=>?_,fun g xs hg=>?_,⟨?_,?_,?_,?_,?_,h.heap.frz,?_⟩,h.below,h.base,h.defs,h.old⟩
 ·obtain ⟨h1,h2⟩:=hw.env i x hx
  obtain ⟨v,h3,h4⟩:=h.env i _ h1
  exact ⟨v,h3,h4.ren h.H hw x rfl h2⟩
 ·rw [hw.gl] at hg
  exact (h.gl g xs hg).ren h.H hw (.eptr xs 0) rfl rfl
 ·intro b t l hl
  obtain ⟨h1,h2,h3⟩:=hget b _ hl
  obtain ⟨g,arr,e1,e2,e3,e4,e5,e6⟩:=h.heap.cells _ t _ h1
  exact ⟨g,arr,by rw [hm b h2];exact e1,e2,e3,e4,by rw [← e5,renL_len],fun i x u hx hu=>(e6 i _ u (renL_get hx) hu).ren h.H hw x rfl (fJ h3 i x hx)⟩
 ·intro b E size l hl
  obtain ⟨h1,h2,h3⟩:=hget b _ hl
  obtain ⟨v,n,cs,e1,e2⟩:=h.heap.vec _ E size l h1
  exact ⟨v,n,cs,by rw [hm b h2];exact e1,e2⟩
 ·intro b b' g hbb hb hb'
  obtain ⟨h1,h2⟩:=hne b hb
  obtain ⟨h1',h2'⟩:=hne b' hb'
  rw [hm b h2,hm b' h2']
  exact h.heap.sep _ _ g (hdiff b b' hbb hb hb') h1 h1'
 ·exact fun b hb=>(hne b hb).2
 ·intro b hb g
  simp only [Wd.ren] at hb ⊢
  rw [if_neg (by omega)]
  simp
 ·intro b p hp
  obtain ⟨h1,h2,_⟩:=hget b _ hp
  obtain ⟨g,e1,e2,e3,e4,e5⟩:=h.heap.obj _ p h1
  have hb0:s'.H b≠none:=by rw [show s'.H b=some (.obj p) from hp];simp
  refine ⟨g,by rw [hm b h2];exact e1,e2,e3,e4,fun b' k hbb hk=>⟨fun hb'=>?_,fun p' hp'=>?_⟩⟩
  ·obtain ⟨h3,h4⟩:=hne b' hb'
   rw [hm b' h4]
   exact (e5 _ k (hdiff b' b hbb hb' hb0) hk).1 h3
  ·have hb':s'.H b'≠none:=by rw [show s'.H b'=some (.obj p') from hp'];simp
   exact (e5 _ k (hdiff b' b hbb hb' hb0) hk).2 p' (hget b' _ hp').1
theorem Ext.ren {M0 M:Wd} {π:List (Nat×Nat)} {s s':St} (h:Ext M0 M) (hf:∀ b,M0.nx≤b→∀ g,M0.m b≠.blk g) (hH:M.H=s.H) (hw:Ren π M0.nx s s'):Ext M0 (M.ren π s') where
 m:=fun b g hb=>by
  have hlt:b < M0.nx:=by
   rcases Nat.lt_or_ge b M0.nx with hc|hc
   ·exact hc
   ·exact absurd hb (hf b hc g)
  have:=hw.lo
  simp only [Wd.ren];rw [if_pos (by omega),hw.id b hlt];exact h.m b g hb
 v:=fun b E size l' hb hl=>by
  have h1:M.H b=some (.vec E size l'):=by
   have:=(hw.heap b _ hl).1
   rw [hw.id b hb] at this
   rw [hH];exact this
  obtain ⟨l,e1,e2,e3⟩:=h.v b E size l' hb h1
  have:=hw.lo
  exact ⟨l,e1,e2,fun hh=>by simp only [Wd.ren];rw [if_pos (by omega),hw.id b hb];exact e3 hh⟩
 nx:=hw.lo
 F:=h.F
section
variable {P:Program}
end
def EnvR (π:List (Nat×Nat)) (s:St) (nx:Nat):List (Nat×AV)→Prop
 | []=>True
 | (i,x)::l=>bf i s.env=some (x.ren π)∧AV.lt nx x=true∧EnvR π s nx l
def HeapR (π:List (Nat×Nat)) (s:St) (nx:Nat):List (Nat×Option AB)→Prop
 | []=>True
 | (i,some x)::l=>s.H (eM π i)=some (abRen π x)∧Nat.blt i nx=true∧abLt nx x=true∧HeapR π s nx l
 | (_,none)::_=>False
theorem EnvR.get {π:List (Nat×Nat)} {s:St} {nx:Nat}:∀ {l:List (Nat×AV)},EnvR π s nx l→∀ i x,bf i l=some x→bf i s.env=some (x.ren π)∧AV.lt nx x=true
 | [],_,i,x,h=>by simp [bf] at h
 | (j,y)::l,⟨h1,h2,h3⟩,i,x,h=>by
  rw [az] at h
  split at h
  ·rename_i hj;subst hj;simp only [Option.some.injEq] at h;subst h;exact ⟨h1,h2⟩
  ·exact EnvR.get h3 i x h
theorem HeapR.get {π:List (Nat×Nat)} {s:St} {nx:Nat}:∀ {l:List (Nat×Option AB)},HeapR π s nx l→∀ i x,bf i l=some (some x)→s.H (eM π i)=some (abRen π x)∧i < nx∧abLt nx x=true
 | [],_,i,x,h=>by simp [bf] at h
 | (j,some y)::l,⟨h1,h0,h2,h3⟩,i,x,h=>by
  rw [az] at h
  split at h
  ·rename_i hj;subst hj;simp only [Option.some.injEq] at h;subst h;exact ⟨h1,ba h0,h2⟩
  ·exact HeapR.get h3 i x h
theorem bQ {π:List (Nat×Nat)} {s:St} {nx:Nat}:EnvR π s nx []:=trivial
theorem bF {π:List (Nat×Nat)} {s:St} {nx i:Nat} {x:AV} {l:List (Nat×AV)} (h1:bf i s.env=some (x.ren π)) (h2:AV.lt nx x=true) (h3:EnvR π s nx l):EnvR π s nx ((i,x)::l):=⟨h1,h2,h3⟩
theorem bG {π:List (Nat×Nat)} {s:St} {nx:Nat}:HeapR π s nx []:=trivial
theorem bz {π:List (Nat×Nat)} {s:St} {nx i:Nat} {x:AB} {l:List (Nat×Option AB)} (h1:s.H (eM π i)=some (abRen π x)) (h0:Nat.blt i nx=true) (h2:abLt nx x=true) (h3:HeapR π s nx l):HeapR π s nx ((i,some x)::l):=⟨h1,h0,h2,h3⟩
theorem look_mem {α:Type} {k:Nat} {x:α}:∀ {l:List (Nat×α)},bf k l=some x→k∈l.map Prod.fst
 | [],h=>by simp [bf] at h
 | (j,y)::l,h=>by
  rw [az] at h
  split at h
  ·rename_i hj;subst hj;simp
  ·exact List.mem_cons_of_mem _ (look_mem h)
def freshK (π:List (Nat×Nat)) (k:Nat):List (Nat×Option AB)→Bool
 | []=>true
 | (j,_)::l=>!(Nat.beq (eM π k) (eM π j)) && freshK π k l
def distK (π:List (Nat×Nat)):List (Nat×Option AB)→Bool
 | []=>true
 | (k,_)::l=>freshK π k l && distK π l
theorem freshK_ne {π:List (Nat×Nat)} {k:Nat}:∀ {l:List (Nat×Option AB)},freshK π k l=true→∀ j∈l.map Prod.fst,eM π k≠eM π j
 | [],_,j,h=>by cases h
 | (i,x)::l,hf,j,h=>by
  simp only [freshK,Bool.and_eq_true,Bool.not_eq_true'] at hf
  rcases List.mem_cons.1 h with rfl|h
  ·exact beq_false hf.1
  ·exact freshK_ne hf.2 j h
theorem distK_inj {π:List (Nat×Nat)}:∀ {l:List (Nat×Option AB)},distK π l=true→∀ i∈l.map Prod.fst,∀ j∈l.map Prod.fst,eM π i=eM π j→i=j
 | [],_,i,h,_,_,_=>by cases h
 | (k,x)::l,hd,i,hi,j,hj,e=>by
  simp only [distK,Bool.and_eq_true] at hd
  rcases List.mem_cons.1 hi with hi1|hi1
  ·rcases List.mem_cons.1 hj with hj1|hj1
   ·rw [hi1,hj1]
   ·have hi1:i=k:=hi1
    rw [hi1] at e
    exact absurd e (freshK_ne hd.1 j hj1)
  ·rcases List.mem_cons.1 hj with hj1|hj1
   ·have hj1:j=k:=hj1
    rw [hj1] at e
    exact absurd e.symm (freshK_ne hd.1 i hi1)
   ·exact distK_inj hd.2 i hi1 j hj1 e
theorem renA_id {π:List (Nat×Nat)} {nx0:Nat} (hid:π.all (fun x=>Nat.ble nx0 x.1)=true) {b:Nat} (hb:b < nx0):eM π b=b:=by
 unfold eM
 cases hl:bf b π with
 | none=>rfl
 | some c =>
  obtain ⟨x,hx,hxe⟩:=List.mem_map.1 (look_mem hl)
  have:=Nat.le_of_ble_eq_true (List.all_eq_true.1 hid x hx)
  omega
theorem dw {n:Nat} {env env':List (Nat×AV)} {heap heap':List (Nat×Option AB)} {nx nx' nx0:Nat} {gl:List (Nat×List CV)} (π:List (Nat×Nat)) (h:Nat.ble nx0 nx'=true) (hid:π.all (fun x=>Nat.ble nx0 x.1)=true) (hin:distK π heap'=true) (he:EnvR π ⟨n,env,heap,nx,gl⟩ nx' env') (hh:HeapR π ⟨n,env,heap,nx,gl⟩ nx' heap'):Ren π nx0 ⟨n,env,heap,nx,gl⟩ ⟨n,env',heap',nx',gl⟩:=by
 refine ⟨rfl,rfl,Nat.le_of_ble_eq_true h,fun b hb=>renA_id hid hb,fun i x hx=>EnvR.get he i x hx,fun b x hx=>HeapR.get hh b x (St.H_some hx),fun b b' h1 h2 e=>?_⟩
 obtain ⟨x,hx⟩:=Option.ne_none_iff_exists'.1 h1
 obtain ⟨y,hy⟩:=Option.ne_none_iff_exists'.1 h2
 exact distK_inj hin b (look_mem (St.H_some hx)) b' (look_mem (St.H_some hy)) e
end Go.Proofs.YtdndfncpglfdeaaGreatDoor.Ev

namespace Go.Proofs.YtdndfncpglfdeaaGreatDoor.Ev
set_option linter.unusedVariables false
set_option linter.unusedSimpArgs false
open Go.RowKit
section
variable {base:Nat} {w0:W0} {st:St} {M:Wd} {a:Act}
theorem Sim.forget (hs:Sim base w0 st M a) (b:Nat):∃ M',M'.w=M.w∧M'.F=M.F∧Sim base w0 ⟨st.n,st.env,(b,none)::st.heap,st.nx,st.gl⟩ M' a∧Ext M M':=by
 let M':Wd:={ M with H:=St.H ⟨st.n,st.env,(b,none)::st.heap,st.nx,st.gl⟩ }
 have hH:∀ k,M'.H k=if b=k then none else M.H k:=fun k=>by
  show St.H _ k=_
  unfold St.H
  simp only [az]
  by_cases h:b=k
  ·rw [if_pos h,if_pos h]
  ·rw [if_neg h,if_neg h,hs.H];rfl
 have hold:∀ k x,M'.H k=some x→M.H k=some x:=fun k x hx=>by
  rw [hH] at hx
  by_cases h:b=k
  ·rw [if_pos h] at hx;cases hx
  ·rwa [if_neg h] at hx
 have hne:∀ k,M'.H k≠none→M.H k≠none:=fun k hk=>by
  obtain ⟨x,hx⟩:=Option.ne_none_iff_exists'.1 hk
  rw [hold k x hx];simp
 have hext:Ext M M':=⟨fun _ _ h=>h,fun k E size' l' _ hl=>⟨l',hold k _ hl,Nat.le_refl _,fun _=>rfl⟩,Nat.le_refl _,fun k hk=>⟨hk,rfl⟩⟩
 refine ⟨M',rfl,rfl,⟨rfl,hs.nx,hs.n,fun i y hy=>?_,fun g xs hg=>(hs.gl g xs hg).mono hext,⟨?_,?_,?_,?_,hs.heap.fresh,hs.heap.frz,?_⟩,hs.below,hs.base,hs.defs,hs.old⟩,hext⟩
 ·obtain ⟨u,h1,h2⟩:=hs.env i y hy
  exact ⟨u,h1,h2.mono hext⟩
 ·intro k t l hl
  obtain ⟨g,arr,g1,g2,g3,g4,g5,g6⟩:=hs.heap.cells k t l (hold k _ hl)
  exact ⟨g,arr,g1,g2,g3,g4,g5,fun i x u hx hu=>(g6 i x u hx hu).mono hext⟩
 ·intro k E size l hl
  exact hs.heap.vec k E size l (hold k _ hl)
 ·intro k k' g hkk hk hk'
  exact hs.heap.sep k k' g hkk (hne k hk) (hne k' hk')
 ·exact fun k hk=>hs.heap.lt k (hne k hk)
 ·intro k p hp
  obtain ⟨g,e1,e2,e3,e4,e5⟩:=hs.heap.obj k p (hold k _ hp)
  exact ⟨g,e1,e2,e3,e4,fun b' c hbb hc=>⟨fun hb'=>(e5 b' c hbb hc).1 (hne b' hb'),fun p' hp'=>(e5 b' c hbb hc).2 p' (hold b' _ hp')⟩⟩
end
section
variable {P:Program} {ops:Array Oper} {Q:Exit→St→Prop} {X:List Oper→St→Prop} {rest:List Oper} {d:Nat} {ty:TypeId} {pos:String} {af:Array Edge} {n:Nat} {env:List (Nat×AV)} {heap:List (Nat×Option AB)} {nx:Nat} {gl:List (Nat×List CV)}
end
end Go.Proofs.YtdndfncpglfdeaaGreatDoor.Ev

namespace Go.Proofs.YtdndfncpglfdeaaGreatDoor.Ev
set_option linter.unusedVariables false
set_option linter.unusedSimpArgs false
open Go.RowKit
section
variable {P:Program} {ops:Array Oper} {Q:Exit→St→Prop} {X:List Oper→St→Prop} {rest:List Oper} {d:Nat} {ty:TypeId} {pos:String} {af:Array Edge} {n:Nat} {env:List (Nat×AV)} {heap:List (Nat×Option AB)} {nx:Nat} {gl:List (Nat×List CV)}
theorem dC [W:Walk P X] {x:Operand} {b off:Nat} (hx:St.ev ⟨n,env,heap,nx,gl⟩ x=some (.ptr b off)) (hd:Nat.blt d n=true) (h:X rest ⟨n,(d,.ptr b off)::env,heap,nx,gl⟩):X (⟨some d,.nilCheck x,ty,pos,af,none⟩::rest) ⟨n,env,heap,nx,gl⟩:=by
 refine aY (st:=⟨n,env,heap,nx,gl⟩) rfl rfl hd (fun _ _ M e hs=>?_) h
 have hv:=hs.ev (by simp [Op.operands,Call.operands]) hx
 generalize he:e.eval x=u at hv
 cases hv with
 | ptr hm =>
  refine ⟨_,?_,.ptr hm⟩
  simp only [execOp,he]
  rfl
theorem r_callOE {Γ:Type} {f:FuncId} {args:List Operand} {tys:Array TypeId} {ys:List AV} {zs:List OA} {r:Γ→CV} {p:ObjP} {p':Γ→ObjP} (b:Nat) (hcon:OConE P gl f zs p r p') (hys:evs ⟨n,env,heap,nx,gl⟩ args=some ys) (hz:oas b ys=some zs) (hb:St.H ⟨n,env,heap,nx,gl⟩ b=some (.obj p)) (hd:Nat.blt d n=true)
  (h:∀ γ,aP P ops Q rest ⟨n,(d,ofC (r γ))::env,(b,some (.obj (p' γ)))::heap,nx,gl⟩):aP P ops Q (⟨some d,.call ⟨.value (.func f),args.toArray,tys⟩,ty,pos,af,none⟩::rest) ⟨n,env,heap,nx,gl⟩ :=
 ao_callOE (st:=⟨n,env,heap,nx,gl⟩) b hcon hys hz hb hd h
end
end Go.Proofs.YtdndfncpglfdeaaGreatDoor.Ev

namespace Go.Proofs.YtdndfncpglfdeaaGreatDoor.Ev
set_option linter.unusedVariables false
set_option linter.unusedSimpArgs false
open Go.RowKit
def ConE {Γ:Type} (P:Program) (gl:List (Nat×List CV)) (f:FuncId) (args:List CV) (r:Γ→CV):Prop :=
 bB P f=true∧∀ (w:World) (F:Nat→Prop) (vals:Array Value),(∀ b,F b→b < w.heap.size)→GlOK gl F w→args.length=vals.size→(∀ (i:Nat) (x:CV) (u:Value),args[i]?=some x→vals[i]?=some u→RC F w x u) →
  Calls P f vals w fun e w'=>∃ γ v,e=.returned v∧Below w.heap.size w w'∧RC (fun b=>F b∨(w.heap.size≤b∧b < w'.heap.size)) w' (r γ) v
def RetE {Γ:Type} (P:Program) (rs:List ResultVar) (r:Γ→CV):Exit→St→Prop:=fun e st=>∃ γ,Ret P rs (r γ) e st
theorem conE_of {Γ:Type} {P:Program} {gl:List (Nat×List CV)} {f:FuncId} {fn:Func} {c:Code} {args:List CV} {r:Γ→CV} (hf:P.funcs[f]?=some fn) (hb:fn.body=some c) (hcall:bB P f=true) (hn:Nat.ble args.length fn.ntmps=true)
  (h:gf P c (RetE P fn.results.toList r) { n:=fn.ntmps,env:=am 0 args,heap:=[],nx:=0,gl:=gl }):ConE P gl f args r:=by
 refine ⟨hcall,fun w F vals hF hgl hl hv=>?_⟩
 have hle:=Nat.le_of_ble_eq_true hn
 refine calls_of_wp hf hb ?_
 have hsim:Sim w.heap.size ⟨w,F⟩ { n:=fn.ntmps,env:=am 0 args,heap:=[],nx:=0,gl:=gl } { m:=fun _=>.row undef,H:=fun _=>none,nx:=0,F:=F,w:=w,fp:=fun _ _=>False } { tmps:=vals++Array.replicate (fn.ntmps - vals.size) undef,defers:=[] }:=by
  refine ⟨rfl,rfl,by simp;omega,fun i y hy=>?_,hgl,⟨?_,?_,fun b b' g _ h=>absurd rfl h,fun b h=>absurd rfl h,?_,hF,?_⟩,Below.refl _ _,Nat.le_refl _,rfl,fun b h _=>h⟩
  rotate_left
  ·intro b t l h;cases h
  ·intro b E s l h;cases h
  ·intro b _ g h;cases h
  ·intro b p h;cases h
  obtain ⟨x,_,h1,rfl⟩:=iO args 0 i y hy
  rw [Nat.sub_zero] at h1
  have hi:i < vals.size:=by have:=(List.getElem?_eq_some_iff.1 h1).1;omega
  refine ⟨vals[i],by simp [Array.getElem?_append,hi],RA.ofC (M:={ m:=fun _=>.row undef,H:=fun _=>none,nx:=0,F:=F,w:=w,fp:=fun _ _=>False }) (hv i x _ h1 (by simp [hi]))⟩
 refine Code.wp_mono ?_ (h _ _ _ _ hsim)
 intro e a' w' ⟨M',st',h1,h2,h3,γ,h4⟩
 subst h1
 have hres:=results_run (fn:=fn) h2 (F':=fun b=>F b∨(w.heap.size≤b∧b < M'.w.heap.size)) (fun b hb'=>by
  rcases Nat.lt_or_ge b w.heap.size with hc|hc
  ·exact Or.inl (h2.old b hb' hc)
  ·exact Or.inr ⟨hc,h2.heap.frz b hb'⟩) (fun b h1 h2=>Or.inr ⟨h1,h2⟩) h4
 obtain ⟨v,hrun,hrc⟩:=hres
 have hpost:bodyPost P fn (fun e w'=>∃ γ v,e=.returned v∧Below w.heap.size w w'∧RC (fun b=>F b∨(w.heap.size≤b∧b < w'.heap.size)) w' (r γ) v) e a' M'.w:=by
  rcases h4.1 with rfl|rfl
  ·exact ⟨h2.defs,v,hrun,γ,v,rfl,h2.below,hrc⟩
  ·exact ⟨h2.defs,v,hrun,γ,v,rfl,h2.below,hrc⟩
 exact hpost
theorem r_callE {Γ:Type} {P:Program} {ops:Array Oper} {Q:Exit→St→Prop} {rest:List Oper} {d:Nat} {ty:TypeId} {pos:String} {af:Array Edge} {n:Nat} {env:List (Nat×AV)} {heap:List (Nat×Option AB)} {nx:Nat} {gl:List (Nat×List CV)} {f:FuncId} {args:List Operand} {tys:Array TypeId} {ys:List AV} {zs:List CV} {r:Γ→CV} (hcon:ConE P gl f zs r) (hys:evs ⟨n,env,heap,nx,gl⟩ args=some ys) (hz0:clF.clFL ys=some zs) (hd:Nat.blt d n=true)
  (h:∀ γ,aP P ops Q rest ⟨n,(d,ofC (r γ))::env,heap,nx,gl⟩):aP P ops Q (⟨some d,.call ⟨.value (.func f),args.toArray,tys⟩,ty,pos,af,none⟩::rest) ⟨n,env,heap,nx,gl⟩:=by
 have hz:cl.clL (fun _=>none) ys zs:=iM hz0
 intro base w0 M a hs
 obtain ⟨e1,e2⟩:=dN hys
 obtain ⟨e3,e4⟩:=gG hz
 refine eS rfl (eQ hcon.1 a M.w) (R:=fun v w''=>∃ γ,Below M.w.heap.size M.w w''∧RC (M.after w'').F w'' (r γ) v) (Calls.mono (hcon.2 M.w M.F _ hs.heap.frz (fun g xs hg=>?_) (by simp;omega) (fun i x u hx hu=>?_)) (fun e w'' ⟨γ,v,he,hb,hrc⟩=>⟨v,he,γ,hb,hrc⟩)) (fun v w'' hR=>?_)
 ·have:=hs.gl g xs hg
  generalize hq:Value.pointer (some ⟨g,0,none⟩)=q at this ⊢
  cases this with
  | eptr cs hF hcell hr=>exact .eptr cs hF hcell hr
 ·have hi:i < args.length:=by have:=(List.getElem?_eq_some_iff.1 hx).1;omega
  obtain ⟨y,hy⟩:∃ y,ys[i]?=some y:=⟨_,List.getElem?_eq_getElem (by omega)⟩
  have hev:=hs.ev (e2 i args[i] y (by simp [hi]) hy)
  have hu':a.eval args[i]=u:=by simpa [hi] using hu
  rw [hu'] at hev
  exact il hs.heap (F':=M.F) (fun _ h=>h) (fun b E s l h=>by cases h) hev (e4 i y x hy hx)
 ·obtain ⟨γ,hb,hrc⟩:=hR
  have:=h γ base w0 (M.after w'') _ ((hs.after hb).put hd (RA.ofC (M:=M.after w'') hrc))
  exact aM (fun e a w=>bN.ext (Ext.after hb hs.heap.frz)) _ _ _ this
end Go.Proofs.YtdndfncpglfdeaaGreatDoor.Ev

namespace Go.Proofs.YtdndfncpglfdeaaGreatDoor.Ev
set_option linter.unusedVariables false
set_option linter.unusedSimpArgs false
open Go.RowKit
def Fw (ρ:Option Nat):Fence:={ Fence.wide with round:=ρ }
theorem callsF {ρ:Option Nat} {n:Nat} {P:Program} {f:FuncId} {args:Array Value} {w:World} {R:Ending→World→Prop} (h:Calls P f args w R):CallsIn (Fw ρ) n P f args w R :=
 (callsIn_wide (n:=n)).2 h
theorem rowsF {ρ:Option Nat} {n:Nat} {P:Program} {row:String} {args:Array Value} {w:World} {R:Value→World→Prop} (h:Rows P row args w R):RowsIn (Fw ρ) n P row args w R :=
 fun c cs _=>let ⟨v,w',r,s⟩:=h c cs;⟨v,w',r,(stepsIn_wide (P:=P)).2 s⟩
section
variable {P:Program} {ρ:Option Nat} {n:Nat}
theorem upon_in {o:Oper} {a:Act} {K K':Act→World→Prop} {Q Q':Exit→Act→World→Prop} (hk:∀ a w,K a w→K' a w) (hq:∀ e a w,Q e a w→Q' e a w) {r:Result Next} (h:o.upon P a K Q r):o.uponIn (Fw ρ) n P a K' Q' r:=by
 cases r with
 | ok x w' =>
  cases x with
  | value v=>exact hk _ _ h
  | skip=>exact hk _ _ h
  | defer d=>exact hk _ _ h
  | enter f args =>
   rw [Oper.uponIn_enter]
   refine ⟨fun hh=>(by cases hh),callsF (Calls.mono h fun e w'' he=>?_)⟩
   cases e with
   | returned v=>exact hk _ _ he
   | panicked c=>exact hq _ _ _ he
   | outgrown=>obtain ⟨a,w,he⟩:=he;exact ⟨a,w,hq _ _ _ he⟩
  | row row args =>
   rw [Oper.uponIn_row]
   exact ⟨fun hh=>(by cases hh),rowsF (Rows.mono h fun _ _ he=>hk _ _ he)⟩
  | _=>exact absurd h id
 | halt x w' =>
  cases x with
  | panic v=>exact hq _ _ _ h
  | _=>exact absurd h id
def gD (o:Oper):Prop:=∀ c,o.op≠.defer c
def gV (l:List Oper):Bool:=l.all fun o=>match o.op with|.defer _=>false|_=>true
theorem iY {l:List Oper} (h:gV l=true):∀ o∈l,gD o:=fun o ho c hc=>by
 have:=List.all_eq_true.1 h o ho
 rw [hc] at this;cases this
theorem oper_in {o:Oper} (hd:gD o) {a:Act} {w:World} {K K':Act→World→Prop} {Q Q':Exit→Act→World→Prop} (hk:∀ a w,K a w→K' a w) (hq:∀ e a w,Q e a w→Q' e a w) (h:o.wp P a w K Q):o.wpIn (Fw ρ) n P a w K' Q':=by
 refine ⟨fun _ _=>trivial,?_⟩
 rw [Oper.semAt_eq _ _ _ hd]
 exact upon_in hk hq h
theorem wpList_in {ops:Array Oper} {Q Q':Exit→Act→World→Prop} (hQ:¬ LetsOut Q) (hq:∀ e a w,Q e a w→Q' e a w):∀ (l:List Oper),(∀ o∈l,gD o)→∀ (a:Act) (w:World),wpList P ops Q l a w→wpListIn (Fw ρ) n P ops Q' l a w
 | [],_,a,w,h=>hq _ _ _ h
 | o::l,hd,a,w,h=>by
  unfold wpList at h
  unfold wpListIn
  split
  ·rename_i hw
   rw [if_pos hw] at h
   rcases h with h|h
   ·exact oper_in (hd o (List.mem_cons_self ..)) (fun a w=>wpList_in hQ hq l (fun o ho=>hd o (List.mem_cons_of_mem _ ho)) a w) hq h
   ·exact absurd h.2 hQ
  ·rename_i hw
   rw [if_neg hw] at h
   exact ⟨fun _ _=>trivial,wpList_in hQ hq l (fun o ho=>hd o (List.mem_cons_of_mem _ ho)) _ _ h⟩
theorem wpOp_in {ops:Array Oper} {Q Q':Exit→Act→World→Prop} (hQ:¬ LetsOut Q) (hq:∀ e a w,Q e a w→Q' e a w) (hd:∀ o∈ops.toList,gD o) {i:Nat} {K K':Act→World→Prop} (hk:∀ a w,K a w→K' a w) {a:Act} {w:World} (h:wpOp P ops Q i K a w):wpOpIn (Fw ρ) n P ops Q' i K' a w:=by
 unfold wpOp at h
 unfold wpOpIn
 cases ho:ops[i]? with
 | none=>rw [ho] at h;exact hk _ _ h
 | some o =>
  rw [ho] at h
  dsimp only at h ⊢
  have hm:o∈ops.toList:=by
   obtain ⟨hi,he⟩:=Array.getElem?_eq_some_iff.1 ho
   rw [← he];exact Array.getElem_mem_toList hi
  split
  ·rename_i hw
   rw [if_pos hw] at h
   rcases h with h|h
   ·exact oper_in (hd o hm) hk hq h
   ·exact absurd h.2 hQ
  ·rename_i hw
   rw [if_neg hw] at h
   exact ⟨fun _ _=>trivial,hk _ _ h⟩
theorem wpAny_in {md:Region.Mode} {ops:Array Oper} {Q Q':Exit→Act→World→Prop} (hQ:¬ LetsOut Q) (hq:∀ e a w,Q e a w→Q' e a w) (hd:∀ o∈ops.toList,gD o):∀ (g:Nat) (listed:Array Bool) (a:Act) (w:World),wpAny P md ops Q g listed a w→wpAnyIn (Fw ρ) n P md ops Q' g listed a w
 | 0,listed,a,w,h=>⟨h.1,hq _ _ _ h.2⟩
 | g+1,listed,a,w,h=>⟨fun hr=>hq _ _ _ (h.1 hr),fun i hi=>wpOp_in hQ hq hd (fun a w=>wpAny_in hQ hq hd g _ a w) (h.2 i hi)⟩
structure SimX (K:Wd→Prop) (ds:List Deferred) (base:Nat) (w0:W0) (st:St) (M:Wd) (a:Act):Prop where
 sim:Sim base w0 st M { a with defers:=[] }
 k:K M
 ds:a.defers=ds
def LiftX (ds:List Deferred) (base:Nat) (w0:W0) (M:Wd) (Q:Exit→St→Prop):Exit→Act→World→Prop :=
 fun e a' w'=>∃ M' st',M'.w=w'∧Sim base w0 st' M' { a' with defers:=[] }∧a'.defers=ds∧Ext M M'∧Q e st'
theorem LiftX.ext {ds:List Deferred} {base:Nat} {w0:W0} {M M':Wd} {Q:Exit→St→Prop} (h:Ext M M') {e:Exit} {a:Act} {w:World} (hl:LiftX ds base w0 M' Q e a w):LiftX ds base w0 M Q e a w:=by
 obtain ⟨M'',st',h1,h2,h3,h4,h5⟩:=hl
 exact ⟨M'',st',h1,h2,h3,h.trans h4,h5⟩
def eV (ρ:Option Nat) (K:Wd→Prop) (ds:List Deferred) (P:Program) (c:Code) (Q:Exit→St→Prop) (st:St):Prop :=
 ∀ base w0 M a,SimX K ds base w0 st M a→c.wpIn (Fw ρ) 0 P (LiftX ds base w0 M Q) a M.w
def f7 (ρ:Option Nat) (K:Wd→Prop) (ds:List Deferred) (P:Program) (ops:Array Oper) (Q:Exit→St→Prop) (rest:List Oper) (st:St):Prop :=
 ∀ base w0 M a,SimX K ds base w0 st M a→(∀ o∈rest,gD o)→wpListIn (Fw ρ) 0 P ops (LiftX ds base w0 M Q) rest a M.w
class Mono (K:Wd→Prop):Prop where
 up:∀ {M M':Wd},Ext M M'→K M→K M'
instance:Mono (fun _=>True):=⟨fun _ _=>trivial⟩
def gA (Q:Exit→St→Prop):Prop:=∀ st,¬ Q .outgrown st
theorem lets_out {base:Nat} {w0:W0} {M:Wd} {Q:Exit→St→Prop} (h:gA Q):¬ LetsOut (bN base w0 M Q):=by
 rintro ⟨a,w,M',st',_,_,_,hq⟩
 exact h st' hq
variable {K:Wd→Prop} {ds:List Deferred} {Q:Exit→St→Prop} {st:St}
theorem SimX.mk' {base:Nat} {w0:W0} {M:Wd} {a:Act} (h:SimX K [] base w0 st M a):Sim base w0 st M a:=by
 have e:({ a with defers:=[] }:Act)=a:=by have:=h.ds;cases a;simp only at this;subst this;rfl
 rw [← e];exact h.sim
theorem lift_x {base:Nat} {w0:W0} {M:Wd} {e:Exit} {a:Act} {w:World} (h:bN base w0 M Q e a w):LiftX [] base w0 M Q e a w:=by
 obtain ⟨M',st',h1,h2,h3,h4⟩:=h
 have e:({ a with defers:=[] }:Act)=a:=by have:=h2.defs;cases a;simp only at this;subst this;rfl
 exact ⟨M',st',h1,by rw [e];exact h2,h2.defs,h3,h4⟩
theorem awx_region_of {id:Nat} {l:List Oper} (hd:gV l=true) (hQ:gA Q) (h:aP P l.toArray Q l st):eV ρ K [] P (.region id l.toArray false) Q st:=fun base w0 M a hs =>
 wpIn_region_lit (wpList_in (ρ:=ρ) (n:=0) (lets_out hQ) (fun _ _ _=>lift_x) l (iY hd) a M.w (h base w0 M a hs.mk'))

theorem awx_seq [Mono K] {x y:Code} (h:eV ρ K ds P x (thn (eV ρ K ds P y Q) Q) st):eV ρ K ds P (.seq x y) Q st:=fun base w0 M a hs=>by
 refine wpIn_seq (Code.wpIn_mono (fun e a' w' he=>?_) (h base w0 M a hs))
 obtain ⟨M',st',rfl,h2,h3,h4,h5⟩:=he
 cases e with
 | normal=>exact Code.wpIn_mono (fun e a w=>LiftX.ext h4) (h5 base w0 M' a' ⟨h2,Mono.up h4 hs.k,h3⟩)
 | _=>exact ⟨M',st',rfl,h2,h3,h4,h5⟩
theorem awx_block {id:Nat} {c:Code} (h:eV ρ K ds P c (inb id Q) st):eV ρ K ds P (.block id c) Q st:=fun base w0 M a hs=>by
 refine wpIn_block (Code.wpIn_mono (fun e a' w' he=>?_) (h base w0 M a hs))
 obtain ⟨M',st',rfl,h2,h3,h4,h5⟩:=he
 cases e with
 | exit id' =>
  show if id'=id then _ else _
  by_cases hi:id'=id
  ·rw [if_pos hi]
   have h5':(if id'=id then Q .normal st' else Q (.exit id') st'):=h5
   rw [if_pos hi] at h5'
   exact ⟨M',st',rfl,h2,h3,h4,h5'⟩
  ·rw [if_neg hi]
   have h5':(if id'=id then Q .normal st' else Q (.exit id') st'):=h5
   rw [if_neg hi] at h5'
   exact ⟨M',st',rfl,h2,h3,h4,h5'⟩
 | _=>exact ⟨M',st',rfl,h2,h3,h4,h5⟩
theorem awx_skip (h:Q .normal st):eV ρ K ds P .skip Q st:=fun base w0 M a hs=>wpIn_skip ⟨M,st,rfl,hs.sim,hs.ds,Ext.refl M,h⟩
theorem awx_ret (h:Q .ret st):eV ρ K ds P .ret Q st:=fun base w0 M a hs=>wpIn_ret ⟨M,st,rfl,hs.sim,hs.ds,Ext.refl M,h⟩
theorem awx_exit {id:Nat} (h:Q (.exit id) st):eV ρ K ds P (.exit id) Q st:=fun base w0 M a hs=>wpIn_exit ⟨M,st,rfl,hs.sim,hs.ds,Ext.refl M,h⟩
theorem bR {id:Nat} {l:List Oper} (hd:gV l=true) (h:f7 ρ K ds P l.toArray Q l st):eV ρ K ds P (.region id l.toArray false) Q st:=fun base w0 M a hs =>
 wpIn_region_lit (h base w0 M a hs (iY hd))
theorem aox_nil {ops:Array Oper} (h:Q .normal st):f7 ρ K ds P ops Q [] st:=fun base w0 M a hs _=>⟨M,st,rfl,hs.sim,hs.ds,Ext.refl M,h⟩
end
end Go.Proofs.YtdndfncpglfdeaaGreatDoor.Ev

namespace Go.Proofs.YtdndfncpglfdeaaGreatDoor.Ev
set_option linter.unusedVariables false
set_option linter.unusedSimpArgs false
open Go.RowKit
theorem put_ds (a:Act) (dst:Option Tmp) (u:Value) (ds:List Deferred):({ ({ a with defers:=[] }:Act).put dst u with defers:=ds }:Act)=({ a with defers:=ds }:Act).put dst u:=by
 cases dst<;>rfl
theorem put_defs (a:Act) (dst:Option Tmp) (u:Value):(a.put dst u).defers=a.defers:=by cases dst<;>rfl
section
variable {P:Program} {ρ:Option Nat} {K:Wd→Prop} {ds:List Deferred} {Q:Exit→St→Prop} {st:St} {ops:Array Oper} {rest:List Oper} {ty:TypeId} {pos:String} {af:Array Edge} {d:Nat}
theorem upon_ds {o:Oper} {a:Act} {K:Act→World→Prop} {Q:Exit→Act→World→Prop} {r:Result Next} (h:o.upon P { a with defers:=[] } (fun a' w'=>a'.defers=[]∧K { a' with defers:=a.defers } w') (fun _ _ _=>False) r):o.upon P a K Q r:=by
 have hput:∀ u w',((({ a with defers:=[] }:Act).put o.dst u).defers=[]∧K { ({ a with defers:=[] }:Act).put o.dst u with defers:=a.defers } w')→K (a.put o.dst u) w':=fun u w' hh=>by
  have:=hh.2;rw [put_ds] at this;exact this
 cases r with
 | ok x w' =>
  cases x with
  | value v=>exact hput _ _ h
  | skip=>exact hput _ _ h
  | defer d =>
   have:=h.1
   rw [put_defs] at this;cases this
  | enter f args =>
   rw [Oper.upon_enter] at h ⊢
   refine Calls.mono h fun e w'' he=>?_
   cases e with
   | returned v=>exact hput _ _ he
   | panicked c=>exact he.elim
   | outgrown=>obtain ⟨_,_,he⟩:=he;exact he.elim
  | row row args =>
   rw [Oper.upon_row] at h ⊢
   exact Rows.mono h fun _ _ he=>hput _ _ he
  | _=>exact absurd h id
 | halt x w' =>
  cases x with
  | panic v=>exact absurd h id
  | _=>exact absurd h id
theorem uponIn_mono {F:Fence} {n:Nat} {o:Oper} {a:Act} {K K':Act→World→Prop} {Q Q':Exit→Act→World→Prop} (hk:∀ a w,K a w→K' a w) (hq:∀ e a w,Q e a w→Q' e a w) {r:Result Next} (h:o.uponIn F n P a K Q r):o.uponIn F n P a K' Q' r:=by
 cases r with
 | ok x w' =>
  cases x with
  | value v=>exact hk _ _ h
  | skip=>exact hk _ _ h
  | defer d=>exact hk _ _ h
  | enter f args =>
   rw [Oper.uponIn_enter] at h ⊢
   refine ⟨h.1,h.2.mono fun e w'' he=>?_⟩
   cases e with
   | returned v=>exact hk _ _ he
   | panicked c=>exact hq _ _ _ he
   | outgrown=>obtain ⟨a,w,he⟩:=he;exact ⟨a,w,hq _ _ _ he⟩
  | row row args =>
   rw [Oper.uponIn_row] at h ⊢
   exact ⟨h.1,h.2.mono fun _ _ he=>hk _ _ he⟩
  | round l f tmps assign body =>
   rw [Oper.uponIn_round] at h ⊢
   refine ⟨h.1,h.2.mono fun e w'' he=>?_⟩
   cases e with
   | returned v=>exact hk _ _ he
   | panicked c=>exact hq _ _ _ he
   | outgrown=>obtain ⟨a,w,he⟩:=he;exact ⟨a,w,hq _ _ _ he⟩
  | _=>exact absurd h id
 | halt x w' =>
  cases x with
  | panic v=>exact hq _ _ _ h
  | _=>exact absurd h id
theorem d7 {F:Fence} {n:Nat} {Q Q':Exit→Act→World→Prop} (hq:∀ e a w,Q e a w→Q' e a w):∀ (l:List Oper) (a:Act) (w:World),wpListIn F n P ops Q l a w→wpListIn F n P ops Q' l a w
 | [],a,w,h=>hq _ _ _ h
 | o::l,a,w,h=>by
  unfold wpListIn at h ⊢
  split
  ·rename_i hw
   rw [if_pos hw] at h
   exact ⟨h.1,uponIn_mono (fun a w=>d7 hq l a w) hq h.2⟩
  ·rename_i hw
   rw [if_neg hw] at h
   exact ⟨h.1,d7 hq l _ _ h.2⟩
theorem aox_step {o:Oper} {y:AV} [Mono K] (hg:o.guard=none) (hdst:o.dst=some d) (hd:Nat.blt d st.n=true) (hq:gx P o st y) (h:f7 ρ K ds P ops Q rest (st.put d y)):f7 ρ K ds P ops Q (o::rest) st:=fun base w0 M a hs hn=>by
 refine wpListIn_plain hg fun K' hK=>?_
 refine oper_in (hn o (List.mem_cons_self ..)) (K:=K') (Q:=LiftX ds base w0 M Q) (fun _ _ h=>h) (fun _ _ _ h=>h) ?_
 unfold Oper.wp
 refine upon_ds ?_
 refine hq base w0 M { a with defers:=[] } (hs.sim.toO o) (fun a' w'=>a'.defers=[]∧K' { a' with defers:=a.defers } w') (fun _ _ _=>False) fun u M' hext hsim hu=>⟨by rw [put_defs],?_⟩
 rw [put_ds]
 refine hK _ _ ?_
 have h1:=(hsim st hs.sim).put hd hu
 have h2:=h base w0 M' (a.put o.dst u) ⟨by rw [hdst];exact h1,Mono.up hext hs.k,by rw [put_defs];exact hs.ds⟩ (fun o' ho=>hn o' (List.mem_cons_of_mem _ ho))
 exact d7 (fun e a w=>LiftX.ext hext) _ _ _ h2
instance [Mono K]:Walk P (f7 ρ K ds P ops Q) where
 step:=fun hg hdst hd hq h=>aox_step hg hdst hd hq h
theorem aF {c:Operand} {x y:Code} {b:Bool} (hc:st.ev c=some (.c (.v (.bool b)))) (ht:b=true→eV ρ K ds P x Q st) (hf:b=false→eV ρ K ds P y Q st):eV ρ K ds P (.cond c x y) Q st:=by
 intro base w0 M a hs
 have he:=(hs.sim.ev hc).bool
 refine wpIn_cond he ?_
 cases b with
 | true=>exact ht rfl base w0 M a hs
 | false=>exact hf rfl base w0 M a hs
theorem noDefer_cons {o:Oper} {l:List Oper} (h:∀ x∈o::l,gD x) {o':Oper} (e:o'.op=o.op):∀ x∈o'::l,gD x:=fun x hx=>by
 rcases List.mem_cons.1 hx with rfl|hx
 ·intro c;rw [e];exact h o (List.mem_cons_self ..) c
 ·exact h x (List.mem_cons_of_mem _ hx)
theorem aox_guard_t {dst:Option Tmp} {op:Op} {j t:Nat} {want b:Bool} (hj:(ops[j]?).bind (·.dst)=some t) (hb:bf t st.env=some (.c (.v (.bool b)))) (hw:b=want) (h:f7 ρ K ds P ops Q (⟨dst,op,ty,pos,af,none⟩::rest) st):f7 ρ K ds P ops Q (⟨dst,op,ty,pos,af,some (j,want)⟩::rest) st:=by
 intro base w0 M a hs hn
 obtain ⟨v,h2,h3⟩:=hs.sim.env t _ hb
 have h4:=h3.bool
 subst h4
 have hy:yielded ops a.tmps j=some b:=by unfold yielded;rw [hj];simp only [Option.bind_some];rw [show a.tmps[t]?=some (.bool b) from h2]
 have h1:=h base w0 M a hs (noDefer_cons hn rfl)
 subst hw
 unfold wpListIn at h1 ⊢
 rw [if_pos (by simp [Region.wanted])] at h1
 rw [if_pos (by simp [Region.wanted,hy])]
 exact h1
theorem aox_guard_f {dst:Option Tmp} {op:Op} {j t:Nat} {want b:Bool} (hj:(ops[j]?).bind (·.dst)=some t) (hb:bf t st.env=some (.c (.v (.bool b)))) (hw:b=!want) (hdst:dst=some d) (hd:Nat.blt d st.n=true) (h:f7 ρ K ds P ops Q rest (st.put d (.c (.v undef)))):f7 ρ K ds P ops Q (⟨dst,op,ty,pos,af,some (j,want)⟩::rest) st:=by
 intro base w0 M a hs hn
 obtain ⟨v,h2,h3⟩:=hs.sim.env t _ hb
 have h4:=h3.bool
 subst h4
 have hy:yielded ops a.tmps j=some b:=by unfold yielded;rw [hj];simp only [Option.bind_some];rw [show a.tmps[t]?=some (.bool b) from h2]
 have h1:=h base w0 M (a.put (some d) undef) ⟨hs.sim.put hd (.c (.v undef)),hs.k,by rw [put_defs];exact hs.ds⟩ (fun o ho=>hn o (List.mem_cons_of_mem _ ho))
 unfold wpListIn
 rw [if_neg (by simp [Region.wanted,hy,hw])]
 rw [hdst]
 exact ⟨fun _ _=>trivial,h1⟩
def eD (r:Loop):ObjP where
 holds:=fun _ w g fp=>fp g∧w.heap[g]?=some (.loop r)
 stable:=fun _ _ _ _ _ _ h _ h2=>⟨h.1,(h2 _ h.1).trans h.2⟩
def io:ObjP where
 holds:=fun _ w g fp=>fp g∧w.heap[g]?=some (.deferred (some []))
 stable:=fun _ _ _ _ _ _ h _ h2=>⟨h.1,(h2 _ h.1).trans h.2⟩
def shutP:ObjP where
 holds:=fun _ w g fp=>fp g∧w.heap[g]?=some (.deferred none)
 stable:=fun _ _ _ _ _ _ h _ h2=>⟨h.1,(h2 _ h.1).trans h.2⟩
def busyL (r:Loop):Loop:={ r with state:=.busy }
structure KC (l:Nat) (r:Loop) (bl n:Nat) (env:List (Nat×AV)) (M:Wd):Prop where
 m:M.m bl=.blk l
 n:r.tmps.size=n
 env:∀ i x,bf i env=some x→∃ v,r.tmps[i]?=some v∧RA M x v
instance {l:Nat} {r:Loop} {bl n:Nat} {env:List (Nat×AV)}:Mono (KC l r bl n env):=⟨fun h k=>⟨h.m _ _ k.m,k.n,fun i x hx=>let ⟨v,h1,h2⟩:=k.env i x hx;⟨v,h1,h2.mono h⟩⟩⟩
def parEnv:List Nat→List AV→List (Nat×AV)→List (Nat×AV)
 | t::ts,y::ys,env=>parEnv ts ys ((t,y)::env)
 | _,_,env=>env
theorem par_get {M:Wd}:∀ (ts:List Nat) (ys:List AV) (vs:List Value) (env:List (Nat×AV)) (T:Array Value),ys.length=vs.length→(∀ (i:Nat) (y:AV) (v:Value),ys[i]?=some y→vs[i]?=some v→RA M y v)→(∀ t∈ts,t < T.size) →
  (∀ i x,bf i env=some x→∃ v,T[i]?=some v∧RA M x v) →
  ∀ i x,bf i (parEnv ts ys env)=some x→∃ v,((ts.zip vs).foldl (fun (tmps:Array Value) (p:Nat×Value)=>tmps.setIfInBounds p.1 p.2) T)[i]?=some v∧RA M x v
 | [],ys,vs,env,T,_,_,_,he=>by cases ys<;>exact he
 | t::ts,[],[],env,T,_,_,_,he=>he
 | t::ts,y::ys,v::vs,env,T,hl,hr,ht,he=>by
  show ∀ i x,bf i (parEnv ts ys ((t,y)::env))=some x→∃ v',(List.foldl _ (T.setIfInBounds t v) (ts.zip vs))[i]?=some v'∧RA M x v'
  refine par_get ts ys vs _ _ (by simpa using hl) (fun i y' v' h1 h2=>hr (i+1) y' v' (by simpa using h1) (by simpa using h2)) (fun t' h=>by rw [Array.size_setIfInBounds];exact ht t' (List.mem_cons_of_mem _ h)) (fun i x hx=>?_)
  rw [az] at hx
  by_cases h:t=i
  ·subst h
   rw [if_pos rfl] at hx
   simp only [Option.some.injEq] at hx;subst hx
   exact ⟨v,by simp [ht t (List.mem_cons_self ..)],hr 0 _ _ rfl rfl⟩
  ·rw [if_neg h] at hx
   obtain ⟨u,h1,h2⟩:=he i x hx
   exact ⟨u,by rw [Array.getElem?_setIfInBounds_ne h];exact h1,h2⟩
 | t::ts,[],v::vs,_,_,hl,_,_,_=>by simp at hl
 | t::ts,y::ys,[],_,_,hl,_,_,_=>by simp at hl
theorem par_size:∀ (l:List (Nat×Value)) (T:Array Value),(l.foldl (fun (tmps:Array Value) (p:Nat×Value)=>tmps.setIfInBounds p.1 p.2) T).size=T.size
 | [],_=>rfl
 | p::l,T=>by rw [List.foldl_cons,par_size l,Array.size_setIfInBounds]
theorem Sim.frame {base:Nat} {w0:W0} {st:St} {M:Wd} {a a':Act} (hs:Sim base w0 st M a) {n:Nat} {env:List (Nat×AV)} (hn:a'.tmps.size=n) (hd:a'.defers=[]) (he:∀ i x,bf i env=some x→∃ v,a'.tmps[i]?=some v∧RA M x v):Sim base w0 ⟨n,env,st.heap,st.nx,st.gl⟩ M a' :=
 ⟨hs.H,hs.nx,hn,he,hs.gl,hs.heap,hs.below,hs.base,hd,hs.old⟩
theorem Sim.turn {base:Nat} {w0:W0} {st:St} {M:Wd} {a:Act} (hs:Sim base w0 st M a) {b g:Nat} {p p':ObjP} {o:Obj} (hH:st.H b=some (.obj p)) (hm:M.m b=.blk g)
  (hp':∀ (F:Nat→Prop) (w:World) (fp:Nat→Prop),fp g→w.heap[g]?=some o→p'.holds F w g fp) :
  ∃ M',M'.w=M.w.putObj g o∧Sim base w0 (st.set b (.obj p')) M' a∧Ext M M':=by
 have hMH:M.H b=some (.obj p):=by rw [hs.H];exact hH
 obtain ⟨g0,o1,o2,o3,o4,o5⟩:=hs.heap.obj b p hMH
 rw [hm] at o1;cases o1
 obtain ⟨M',h1,_,h3,h4⟩:=hs.changeO hMH hm (p':=p') (fp':=M.fp b) (w':=M.w.putObj g o)
  ⟨rfl,rfl,rfl,by simp,fun k hk hn=>World.putObj_heap_other (fun e=>hn (by rw [e];exact o2)),hp' _ _ _ o2 (World.putObj_heap_same (o4 g o2).2.1),o2,fun k hk=>⟨by rw [World.putObj_size];exact (o4 k hk).2.1,.inl hk⟩⟩
 exact ⟨M',h1,h3,h4⟩
theorem Sim.recd {base:Nat} {w0:W0} {st:St} {M:Wd} {a:Act} (hs:Sim base w0 st M a) {b g:Nat} {r:Loop} (hH:st.H b=some (.obj (eD r))) (hm:M.m b=.blk g):M.w.heap[g]?=some (.loop r):=by
 have hMH:M.H b=some (.obj (eD r)):=by rw [hs.H];exact hH
 obtain ⟨g0,o1,o2,o3,o4,o5⟩:=hs.heap.obj b _ hMH
 rw [hm] at o1;cases o1
 exact o3.2
theorem run_callY {l:Nat} {c:Operand} {args:List Operand} {tys:Array TypeId} {dst:Option Tmp} {r:Loop} (a:Act) (w:World) (hv:a.eval c=.func (.yield l) #[] #[]) (hr:w.heap[l]?=some (.loop r)) (hs:args.length=r.params.size) :
  (execOp a.eval ⟨dst,.call ⟨.value c,args.toArray,tys⟩,ty,pos,af,none⟩).run P w=.ok (.round l r.fn ((r.params.toList.zip (args.map a.eval)).foldl (fun (tmps:Array Value) (p:Nat×Value)=>tmps.setIfInBounds p.1 p.2) r.tmps) r.assign r.body) w:=by
 have hy:=run_yield (P:=P) (args:=(args.map a.eval).toArray) hr (by simpa using hs)
 have e:(r.params.zip (args.map a.eval).toArray).foldl (fun (tmps:Array Value) (p:Nat×Value)=>tmps.setIfInBounds p.1 p.2) r.tmps=(r.params.toList.zip (args.map a.eval)).foldl (fun (tmps:Array Value) (p:Nat×Value)=>tmps.setIfInBounds p.1 p.2) r.tmps:=by
  rw [← Array.foldl_toList];congr 1;simp
 rw [← e]
 refine Eq.trans ?_ hy
 simp only [execOp,resolve,hv,Deferred.ofValue]
 simp [go_sem,invoke]
theorem dM {l:Nat} {r:Loop} {bl nC:Nat} {envC env':List (Nat×AV)} {cf:Operand} {args:List Operand} {tys:Array TypeId} {ys:List AV} (hcf:st.ev cf=some (.c (.v (.func (.yield l) #[] #[])))) (hys:evs st args=some ys) (hl:ys.length=r.params.size) (hH:st.H bl=some (.obj (eD r))) (hst:r.state=.ready) (hpe:r.pending=none)
  (hpar:∀ t∈r.params.toList,t < nC) (he:parEnv r.params.toList ys envC=env') (hd:Nat.blt d st.n=true)
  (h:eV (some l) (fun _=>True) [] P r.assign (thn (fun s=>s.gl=st.gl∧s.H bl=some (.obj (eD r))∧eV (some l) (fun _=>True) [] P r.body (fun e s'=>e=.normal∧s'.gl=st.gl∧s'.H bl=some (.obj (eD (busyL r))) ∧
   f7 none (KC l r bl nC envC) [] P ops Q rest ⟨st.n,(d,.c (.v (.bool true)))::st.env,(bl,some (.obj (eD r)))::s'.heap,s'.nx,st.gl⟩) ⟨s.n,s.env,(bl,some (.obj (eD (busyL r))))::s.heap,s.nx,s.gl⟩) (fun _ _=>False)) ⟨nC,env',st.heap,st.nx,st.gl⟩) :
  f7 none (KC l r bl nC envC) [] P ops Q (⟨some d,.call ⟨.value cf,args.toArray,tys⟩,ty,pos,af,none⟩::rest) st:=by
 subst he
 intro base w0 M a hs hn
 have hsim:=hs.mk'
 obtain ⟨e1,e2⟩:=dN hys
 have hrec:=hsim.recd hH hs.k.m
 have hcv:a.eval cf=.func (.yield l) #[] #[]:=(hsim.ev hcf).bool
 have hrun:=run_callY (P:=P) (ty:=ty) (pos:=pos) (af:=af) (tys:=tys) (dst:=some d) (args:=args) a M.w hcv hrec (by omega)
 refine wpListIn_plain rfl fun K' hK=>⟨fun _ _=>trivial,?_⟩
 rw [show (Fw none).round=none from rfl,Oper.semAt_none,hrun,Oper.uponIn_round]
 refine ⟨fun hh=>(by cases hh),?_⟩
 refine roundIn_of_wpIn (F:=Fw none) trivial ?_
 have hsim2:Sim base w0 ⟨nC,parEnv r.params.toList ys envC,st.heap,st.nx,st.gl⟩ M { tmps:=(r.params.toList.zip (args.map a.eval)).foldl (fun (tmps:Array Value) (p:Nat×Value)=>tmps.setIfInBounds p.1 p.2) r.tmps,defers:=[] } :=
  hsim.frame (by dsimp only;rw [par_size];exact hs.k.n) rfl (par_get _ _ _ _ _ (by simpa using e1.symm) (fun i y v h1 h2=>by
   have hi:i < args.length:=by have:=(List.getElem?_eq_some_iff.1 h1).1;omega
   have hv:a.eval args[i]=v:=by simpa [hi] using h2
   rw [← hv];exact hsim.ev (e2 i args[i] y (by simp [hi]) h1)) (fun t ht=>by rw [hs.k.n];exact hpar t ht) hs.k.env)
 refine Code.wpIn_mono (fun e a1 w1 hx=>?_) (h base w0 M _ ⟨hsim2,trivial,rfl⟩)
 obtain ⟨M1,s,rfl,g1,g2,g3,g4⟩:=hx
 cases e with
 | normal =>
  obtain ⟨g5,g6,g7⟩:=g4
  have km:=Mono.up (K:=KC l r bl nC envC) g3 hs.k
  have hr1:=g1.recd g6 km.m
  obtain ⟨M2,j1,j2,j3⟩:=g1.turn (p':=eD (busyL r)) (o:=.loop (busyL r)) g6 km.m (fun _ _ _ h1 h2=>⟨h1,h2⟩)
  refine ⟨_,run_beginRound hr1 hst,?_⟩
  rw [show M1.w.putObj l (.loop { r with state:=.busy })=M2.w from j1.symm]
  refine Code.wpIn_mono (fun e a2 w2 hx=>?_) (g7 base w0 M2 a1 ⟨j2,trivial,g2⟩)
  obtain ⟨M3,s',rfl,i1,i2,i3,i4,i5,i6,i7⟩:=hx
  subst i4
  have hext3:=g3.trans (j3.trans i3)
  have km3:=Mono.up (K:=KC l r bl nC envC) hext3 hs.k
  have hr3:=i1.recd i6 km3.m
  obtain ⟨M4,q1,q2,q3⟩:=i1.turn (p':=eD r) (o:=.loop r) i6 km3.m (fun _ _ _ h1 h2=>⟨h1,h2⟩)
  refine ⟨.bool true,M3.w.putObj l (.loop r),?_,?_⟩
  ·have:=run_endRound (P:=P) none hr3
   rw [this]
   have e:({ busyL r with state:=if (none:Option Code).isNone then .ready else .done,pending:=none }:Loop)=r:=by cases r;simp only at hst hpe;subst hst;subst hpe;rfl
   rw [e];rfl
  ·show K' (a.put (some d) (.bool true)) _
   rw [← q1]
   refine hK _ _ ?_
   have hall:=hext3.trans q3
   have hd':=ba hd
   have hfin:Sim base w0 ⟨st.n,(d,.c (.v (.bool true)))::st.env,(bl,some (.obj (eD r)))::s'.heap,s'.nx,st.gl⟩ M4 { a.put (some d) (.bool true) with defers:=[] }:=by
    have:=q2.frame (a':={ a.put (some d) (.bool true) with defers:=[] }) (n:=st.n) (env:=(d,.c (.v (.bool true)))::st.env) (by show (a.tmps.setIfInBounds d _).size=_;rw [Array.size_setIfInBounds];exact hsim.n) rfl (fun i x hx=>by
     rw [az] at hx
     by_cases hi:d=i
     ·subst hi
      rw [if_pos rfl] at hx
      simp only [Option.some.injEq] at hx;subst hx
      exact ⟨.bool true,by simp [Act.put,hsim.n,hd'],.c (.v _)⟩
     ·rw [if_neg hi] at hx
      obtain ⟨u,h1,h2⟩:=hsim.env i x hx
      exact ⟨u,by simp [Act.put,Array.getElem?_setIfInBounds_ne hi,h1],h2.mono hall⟩)
    rw [← i5];exact this
   exact d7 (fun e a w=>LiftX.ext hall) _ _ _ (i7 base w0 M4 _ ⟨hfin,Mono.up hall hs.k,by rw [put_defs];exact hs.ds⟩ (fun o ho=>hn o (List.mem_cons_of_mem _ ho)))
 | _=>exact g4.elim
abbrev markD (D:Nat):Deferred:={ target:=.collected D,args:=#[] }
def LiftY (base:Nat) (w0:W0) (M:Wd) (Q:Exit→St→Prop) (QM:Nat→Exit→St→Prop):Exit→Act→World→Prop :=
 fun e a' w'=>bN base w0 M Q e a' w'∨∃ M' st' D b,M'.w=w'∧Sim base w0 st' M' { a' with defers:=[] }∧a'.defers=[markD D]∧M'.m b=.blk D∧Ext M M'∧QM b e st'
theorem LiftY.ext {base:Nat} {w0:W0} {M M':Wd} {Q:Exit→St→Prop} {QM:Nat→Exit→St→Prop} (h:Ext M M') {e:Exit} {a:Act} {w:World} (hl:LiftY base w0 M' Q QM e a w):LiftY base w0 M Q QM e a w:=by
 rcases hl with hl|⟨M'',st',D,b,h1,h2,h3,h4,h5,h6⟩
 ·exact .inl (bN.ext h hl)
 ·exact .inr ⟨M'',st',D,b,h1,h2,h3,h4,h.trans h5,h6⟩
def AwpY (P:Program) (c:Code) (Q:Exit→St→Prop) (QM:Nat→Exit→St→Prop) (st:St):Prop :=
 ∀ base w0 M a,Sim base w0 st M a→c.wpIn (Fw none) 0 P (LiftY base w0 M Q QM) a M.w
variable {QM:Nat→Exit→St→Prop}
theorem awy_of {c:Code} (h:gf P c Q st):AwpY P c Q QM st:=fun base w0 M a hs =>
 (wpIn_wide (n:=0)).2 (Code.wp_mono (fun _ _ _ hh=>.inl hh) (h base w0 M a hs))
instance {b D:Nat}:Mono (fun M=>M.m b=.blk D):=⟨fun h k=>h.m _ _ k⟩
theorem awy_seq {x y:Code} (h:AwpY P x (thn (AwpY P y Q QM) Q) (fun b=>thn (fun s=>∀ D,eV none (fun M=>M.m b=.blk D) [markD D] P y (QM b) s) (QM b)) st):AwpY P (.seq x y) Q QM st:=fun base w0 M a hs=>by
 refine wpIn_seq (Code.wpIn_mono (fun e a' w' he=>?_) (h base w0 M a hs))
 rcases he with ⟨M',st',rfl,h2,h3,h4⟩|⟨M',st',D,b,rfl,h2,h3,h4,h5,h6⟩
 ·cases e with
  | normal=>exact Code.wpIn_mono (fun e a w=>LiftY.ext h3) (h4 base w0 M' a' h2)
  | _=>exact .inl ⟨M',st',rfl,h2,h3,h4⟩
 ·cases e with
  | normal =>
   refine Code.wpIn_mono (fun e a w hh=>?_) (h6 D base w0 M' a' ⟨h2,h4,h3⟩)
   obtain ⟨M'',st'',g1,g2,g3,g4,g5⟩:=hh
   exact .inr ⟨M'',st'',D,b,g1,g2,g3,g4.m _ _ h4,h5.trans g4,g5⟩
  | _=>exact .inr ⟨M',st',D,b,rfl,h2,h3,h4,h5,h6⟩
theorem awy_block {id:Nat} {c:Code} (h:AwpY P c (inb id Q) (fun b=>inb id (QM b)) st):AwpY P (.block id c) Q QM st:=fun base w0 M a hs=>by
 refine wpIn_block (Code.wpIn_mono (fun e a' w' he=>?_) (h base w0 M a hs))
 rcases he with ⟨M',st',rfl,h2,h3,h4⟩|⟨M',st',D,b,rfl,h2,h3,h4,h5,h6⟩
 ·cases e with
  | exit id' =>
   show if id'=id then _ else _
   have h4':(if id'=id then Q .normal st' else Q (.exit id') st'):=h4
   by_cases hi:id'=id
   ·rw [if_pos hi] at h4' ⊢;exact .inl ⟨M',st',rfl,h2,h3,h4'⟩
   ·rw [if_neg hi] at h4' ⊢;exact .inl ⟨M',st',rfl,h2,h3,h4'⟩
  | _=>exact .inl ⟨M',st',rfl,h2,h3,h4⟩
 ·cases e with
  | exit id' =>
   show if id'=id then _ else _
   have h6':(if id'=id then QM b .normal st' else QM b (.exit id') st'):=h6
   by_cases hi:id'=id
   ·rw [if_pos hi] at h6' ⊢;exact .inr ⟨M',st',D,b,rfl,h2,h3,h4,h5,h6'⟩
   ·rw [if_neg hi] at h6' ⊢;exact .inr ⟨M',st',D,b,rfl,h2,h3,h4,h5,h6'⟩
  | _=>exact .inr ⟨M',st',D,b,rfl,h2,h3,h4,h5,h6⟩
end
end Go.Proofs.YtdndfncpglfdeaaGreatDoor.Ev

namespace Go.Proofs.YtdndfncpglfdeaaGreatDoor.Ev
set_option linter.unusedVariables false
set_option linter.unusedSimpArgs false
open Go.RowKit
section
variable {P:Program} {ρ:Option Nat} {K:Wd→Prop} {ds:List Deferred} {Q:Exit→St→Prop} {st:St} {ops:Array Oper} {rest:List Oper} {ty:TypeId} {pos:String} {af:Array Edge} {d:Nat}
theorem awx_mono {c:Code} {Q Q':Exit→St→Prop} (h:eV ρ K ds P c Q st) (hq:∀ e s,Q e s→Q' e s):eV ρ K ds P c Q' st:=fun base w0 M a hs =>
 Code.wpIn_mono (fun e a w ⟨M',s',h1,h2,h3,h4,h5⟩=>⟨M',s',h1,h2,h3,h4,hq _ _ h5⟩) (h base w0 M a hs)
theorem awx_loopR [Mono K] (I:Nat→St→Prop) {c:Code} (n0:Nat) (h0:∃ s π,I n0 s∧Ren π st.nx st s)
  (round:∀ n s,I n s→eV ρ K [] P c (thn (fun st'=>∃ n' s' π,n' < n∧I n' s'∧Ren π st.nx st' s') Q) s):eV ρ K [] P (.loop c) Q st:=by
 intro base w0 M a hs0
 have hs:=hs0.mk'
 let J:Act→World→Nat→Prop:=fun a' w' n=>∃ M' s,I n s∧M'.w=w'∧Sim base w0 s M' a'∧Ext M M'
 have hμ:∃ μ:Act→World→Nat,∀ a' w' n,J a' w' n→J a' w' (μ a' w')∧μ a' w'≤n:=by
  refine ⟨fun a' w'=>@dite _ (∃ n,J a' w' n) (Classical.propDecidable _) (fun h=>Classical.choose (least (J:=J a' w') _ (Classical.choose_spec h))) (fun _=>0),fun a' w' n hn=>?_⟩
  have hex:∃ n,J a' w' n:=⟨n,hn⟩
  simp only [dif_pos hex]
  have hsp:=Classical.choose_spec (least (J:=J a' w') _ (Classical.choose_spec hex))
  exact ⟨hsp.1,hsp.2 n hn⟩
 obtain ⟨μ,hμ⟩:=hμ
 have hnx:=hs.nx
 refine wpIn_loop (fun a' w'=>∃ n,J a' w' n) μ ?_ ?_
 ·obtain ⟨s,π,h1,h2⟩:=h0
  rw [← hnx] at h2
  exact ⟨n0,M.ren π s,s,h1,rfl,hs.ren h2,(Ext.refl M).ren hs.heap.fresh hs.H h2⟩
 ·rintro a' w' ⟨n,hn⟩
  obtain ⟨⟨M',s,h1,h2,h3,h4⟩,_⟩:=hμ a' w' n hn
  subst h2
  have e0:({ a' with defers:=[] }:Act)=a':=by have:=h3.defs;cases a';simp only at this;subst this;rfl
  refine Code.wpIn_mono ?_ (round _ s h1 base w0 M' a' ⟨by rw [e0];exact h3,Mono.up h4 hs0.k,h3.defs⟩)
  intro e a'' w'' ⟨M'',st',g1,g2,g5,g3,g4⟩
  have e1:({ a'' with defers:=[] }:Act)=a'':=by cases a'';simp only at g5;subst g5;rfl
  rw [e1] at g2
  cases e with
  | normal =>
   obtain ⟨n',s',π,j1,j2,j3⟩:=g4
   rw [← hnx] at j3
   have hJ:J a'' w'' n':=⟨M''.ren π s',s',j2,g1,g2.ren j3,(h4.trans g3).ren hs.heap.fresh g2.H j3⟩
   exact ⟨⟨n',hJ⟩,Nat.lt_of_le_of_lt (hμ a'' w'' n' hJ).2 j1⟩
  | _=>exact ⟨M'',st',g1,by rw [e1];exact g2,g5,h4.trans g3,g4⟩
theorem gh [Mono K] {c:Code} {n:Nat} {env:List (Nat×AV)} {heap:List (Nat×Option AB)} {nx:Nat} {gl:List (Nat×List CV)} {G:Type} (inv:G→Prop) (μ:G→Nat) (E:G→List (Nat×AV)) (Hp:G→List (Nat×Option AB)) (X:Nat) (g0:G) (h0:inv g0) (π0:List (Nat×Nat))
  (hw:Ren π0 nx ⟨n,env,heap,nx,gl⟩ ⟨n,E g0,Hp g0,X,gl⟩)
  (round:∀ g,inv g→eV ρ K [] P c (thn (fun st'=>∃ g' π,μ g' < μ g∧inv g'∧Ren π nx st' ⟨n,E g',Hp g',X,gl⟩) Q) ⟨n,E g,Hp g,X,gl⟩):eV ρ K [] P (.loop c) Q ⟨n,env,heap,nx,gl⟩ :=
 awx_loopR (fun m st=>∃ g,m=μ g∧inv g∧st=⟨n,E g,Hp g,X,gl⟩) (μ g0) ⟨_,π0,⟨g0,rfl,h0,rfl⟩,hw⟩ (by
  rintro _ _ ⟨g,rfl,hg,rfl⟩
  refine awx_mono (round g hg) fun e st hq=>?_
  cases e with
  | normal =>
   obtain ⟨g',π,h1,h2,h3⟩:=hq
   exact ⟨_,_,π,h1,⟨g',rfl,h2,rfl⟩,h3⟩
  | _=>exact hq)
theorem aox_store_gen [Mono K] {x z:Operand} {t:TypeId} {s2:St} (hrun:∀ base w0 M a,Sim base w0 st M a→∃ w' M',(Instr.storeAt t (a.eval x) (a.eval z)).run P M.w=.ok () w'∧M'.w=w'∧Sim base w0 s2 M' a∧Ext M M')
  (h:f7 ρ K ds P ops Q rest s2):f7 ρ K ds P ops Q (⟨none,.store t x z,ty,pos,af,none⟩::rest) st:=by
 intro base w0 M a hs hn
 obtain ⟨w',M',h1,h2,h3,h4⟩:=hrun base w0 M _ hs.sim
 refine wpListIn_plain rfl fun K' hK=>?_
 refine oper_in (hn _ (List.mem_cons_self ..)) (K:=K') (Q:=LiftX ds base w0 M Q) (fun _ _ h=>h) (fun _ _ _ h=>h) ?_
 have hr:(execOp a.eval ⟨none,.store t x z,ty,pos,af,none⟩).run P M.w=.ok .skip w':=by
  simp only [execOp]
  rw [Sem.run_bind,show (Instr.storeAt t (a.eval x) (a.eval z)).run P M.w=_ from h1];rfl
 unfold Oper.wp
 rw [hr]
 refine hK _ _ ?_
 subst h2
 exact d7 (fun e a w=>LiftX.ext h4) _ _ _ (h base w0 M' a ⟨h3,Mono.up h4 hs.k,hs.ds⟩ (fun o ho=>hn o (List.mem_cons_of_mem _ ho)))
theorem aox_store_p [Mono K] {n:Nat} {env:List (Nat×AV)} {heap:List (Nat×Option AB)} {nx:Nat} {gl:List (Nat×List CV)} {x z:Operand} {t n' b off:Nat} {ag:Bool} {t':TypeId} {l:List AV} {y:AV} [I:TyC P t ag n'] (hx:St.ev ⟨n,env,heap,nx,gl⟩ x=some (.ptr b off)) (hz:St.ev ⟨n,env,heap,nx,gl⟩ z=some y) (hc:y.cellB=true) (h1:n'=1) (hH:St.H ⟨n,env,heap,nx,gl⟩ b=some (.cells t' l)) (hl:Nat.blt off l.length=true)
  (h:f7 ρ K ds P ops Q rest ⟨n,env,(b,some (.cells t' (l.set off y)))::heap,nx,gl⟩):f7 ρ K ds P ops Q (⟨none,.store t x z,ty,pos,af,none⟩::rest) ⟨n,env,heap,nx,gl⟩:=by
 have hlt:=ba hl
 have e:l.set off y=bA l [y] off:=by
  unfold bA
  rw [List.set_eq_take_append_cons_drop,if_pos hlt]
  simp
 rw [e] at h
 refine aox_store_gen (s2:=⟨n,env,(b,some (.cells t' (bA l [y] off)))::heap,nx,gl⟩) (fun base w0 M a hs=>?_) h
 have hv:=hs.ev hx
 have hu:=hs.ev hz
 have ho:=hu.one hc
 generalize he:a.eval x=u at hv
 cases hv with
 | ptr hm =>
  refine store_p I hs hH hm (by simp [h1]) (by omega) (by rw [dQ ho,h1];rfl) (by rw [dQ ho];simpa using ho) (fun i y' u' h2 h3=>?_)
  rw [dQ ho] at h3
  cases i with
  | zero=>simp at h2 h3;subst h2;subst h3;exact hu
  | succ i=>simp at h2
theorem iv {g:Operand} {ps:Array Tmp} {assign body:Code} {f:FuncId} {fn:Func} {c:Code} {caps:List AV} {QM:Nat→Exit→St→Prop} (hf:P.funcs[f]?=some fn) (hb:fn.body=some c) (hr:fn.results=#[]) (hcall:bB P f=true)
  (hg:st.ev g=some (.fn f caps)) (hn:Nat.ble (caps.length+1) fn.ntmps=true)
  (h:∀ (l:Nat) (r:Loop),r.assign=assign→r.body=body→r.params=ps→r.state=.ready→r.pending=none →
   eV none (KC l r (st.nx+1) st.n st.env) [] P c (fun e s=>(e=.normal∨e=.ret)∧s.gl=st.gl∧s.H st.nx=some (.obj io)∧s.H (st.nx+1)=some (.obj (eD r))∧QM st.nx .normal ⟨st.n,st.env,(st.nx+1,none)::s.heap,s.nx,st.gl⟩)
    ⟨fn.ntmps,dl 0 (.c (.v (.func (.yield l) #[] #[]))::caps),(st.nx+1,some (.obj (eD r)))::(st.nx,some (.obj io))::st.heap,st.nx+2,st.gl⟩) :
  AwpY P (.rangeFunc g ps assign body) Q QM st:=by
 intro base w0 M a hs
 have hn:=Nat.le_of_ble_eq_true hn
 refine wpIn_rangeFunc (fun fnid _=>?_)
 have hfv:=hs.ev hg
 generalize hev:a.eval g=fv at hfv
 cases hfv with
 | fn hl hh =>
 rename_i vs
 obtain ⟨r,hrr⟩:∃ r:Loop,r={ state:=.ready,pending:=none,fn:=fnid,tmps:=a.tmps,params:=ps,assign,body,defers:=M.w.heap.size }:=⟨_,rfl⟩
 obtain ⟨M1,p1,p2,p3,p4,p5⟩:=hs.newO (g:=M.w.heap.size) (p:=io) (fp:=fun k=>k=M.w.heap.size) (w':=M.w.alloc (.deferred (some [])))
  ⟨(Below.refl _ M.w).alloc (Nat.le_refl _) _,⟨rfl,World.alloc_heap_new _ _⟩,rfl,fun k hk=>by subst hk;rw [World.size_alloc];omega⟩
 obtain ⟨M2,q1,q2,q3,q4,q5⟩:=p4.newO (g:=M1.w.heap.size) (p:=eD r) (fp:=fun k=>k=M1.w.heap.size) (w':=M1.w.alloc (.loop r))
  ⟨(Below.refl _ M1.w).alloc (Nat.le_refl _) _,⟨rfl,World.alloc_heap_new _ _⟩,rfl,fun k hk=>by subst hk;rw [World.size_alloc];omega⟩
 have hsz:M1.w.heap.size=M.w.heap.size+1:=by rw [p1,World.size_alloc]
 have hext:=p5.trans q5
 have hnx:M.nx=st.nx:=hs.nx
 have hnx1:M1.nx=st.nx+1:=p4.nx
 have ew:(M.w.alloc (.deferred (some []))).alloc (.loop r)=M2.w:=by rw [q1,p1]
 have eg:∀ args w,(callFunc f args).run P w=.ok (.enter f args) w:=fun args w=>by
  unfold bB at hcall
  rw [hf] at hcall
  simp only [Bool.and_eq_true,Bool.not_eq_true'] at hcall
  have h1':¬ fn.name= "runtime.NumGoroutine":=by simpa using hcall.1
  simp [callFunc,hf,h1',hb]
 refine ⟨M.w.heap.size+1,[markD M.w.heap.size],M2.w,{ target:=.fn (.func f) vs,args:=#[.func (.yield (M.w.heap.size+1)) #[] #[]] },M2.w,f,#[.func (.yield (M.w.heap.size+1)) #[] #[]]++vs,M2.w,?_,?_,fun _ _=>trivial,?_,fun hd=>(by cases hd),?_⟩
 ·rw [← ew,hrr];exact run_enterLoop_outer _ _ _ _ _
 ·simp only [resolve,hev]
  simp [go_sem]
 ·simp [invoke,go_sem,eg]
 ·have hrec:∀ w:World,r.assign=assign∧r.body=body∧r.params=ps∧r.state=.ready∧r.pending=none:=fun _=>by rw [hrr];exact ⟨rfl,rfl,rfl,rfl,rfl⟩
  obtain ⟨r1,r2,r3,r4,r5⟩:=hrec M.w
  have hm2:M2.m (st.nx+1)=.blk (M.w.heap.size+1):=by rw [← hnx1,q3,hsz]
  have hm1:M2.m st.nx=.blk M.w.heap.size:=q5.m _ _ (by rw [← hnx,p3])
  have hkc:KC (M.w.heap.size+1) r (st.nx+1) st.n st.env M2:=⟨hm2,by rw [hrr];exact hs.n,fun i x hx=>by
   obtain ⟨v,h1,h2⟩:=hs.env i x hx
   exact ⟨v,by rw [hrr];exact h1,h2.mono hext⟩⟩
  have hsim:Sim base w0 ⟨fn.ntmps,dl 0 (.c (.v (.func (.yield (M.w.heap.size+1)) #[] #[]))::caps),(st.nx+1,some (.obj (eD r)))::(st.nx,some (.obj io))::st.heap,st.nx+2,st.gl⟩ M2 { tmps:=((#[.func (.yield (M.w.heap.size+1)) #[] #[]]:Array Value)++vs)++Array.replicate (fn.ntmps - ((#[.func (.yield (M.w.heap.size+1)) #[] #[]]:Array Value)++vs).size) undef,defers:=[] }:=by
   refine Sim.frame q4 (by simp;omega) rfl (fun i y hy=>?_)
   obtain ⟨_,h1⟩:=eA _ 0 i y hy
   rw [Nat.sub_zero] at h1
   cases i with
   | zero =>
    simp only [List.getElem?_cons_zero,Option.some.injEq] at h1;subst h1
    exact ⟨.func (.yield (M.w.heap.size+1)) #[] #[],by simp [Array.getElem?_append],.c (.v _)⟩
   | succ i =>
    rw [List.getElem?_cons_succ] at h1
    have hi2:i < vs.size:=by have:=(List.getElem?_eq_some_iff.1 h1).1;omega
    refine ⟨vs[i],?_,(hh i y _ h1 (by simp [hi2])).mono hext⟩
    rw [Array.getElem?_append,if_pos (by simp;omega),Array.getElem?_append,if_neg (by simp)]
    simp [hi2]
  refine callsIn_of_wp_marks hf hb trivial (Code.wpIn_mono (fun e a' w' hx=>?_) (h (M.w.heap.size+1) r r1 r2 r3 r4 r5 base w0 M2 _ ⟨hsim,hkc,rfl⟩))
  obtain ⟨M3,s,rfl,i1,i2,i3,i4,i5,i6,i7,i8⟩:=hx
  have hm3:=i3.m _ _ hm2
  have hl3:=i1.recd i7 hm3
  obtain ⟨M4,j1,j2,j3⟩:=i1.turn (p':=eD { r with state:=.exhausted }) (o:=.loop { r with state:=.exhausted }) i7 hm3 (fun _ _ _ h1 h2=>⟨h1,h2⟩)
  have hres:(results fn a'.tmps).run P M3.w=.ok (.tuple #[]) M3.w:=by unfold results;rw [hr];simp
  have hfin:rangePost (Fw none) 0 P (M.w.heap.size+1) (LiftY base w0 M Q QM) { a with defers:=[markD M.w.heap.size]++a.defers } (.returned (.tuple #[])) M3.w:=by
   refine ⟨none,M3.w.putObj (M.w.heap.size+1) (.loop { r with state:=.exhausted }),?_,?_⟩
   ·have:=run_endLoop (P:=P) hl3 (by rw [r4];simp)
    rw [this,r5]
   ·show LiftY base w0 M Q QM .normal _ _
    rw [← j1]
    obtain ⟨M5,k1,k2,k3,k4⟩:=j2.forget (st.nx+1)
    have hall:=((hext.trans i3).trans j3).trans k4
    have hm5:=k4.m _ _ (j3.m _ _ (i3.m _ _ hm1))
    rw [← k1]
    refine .inr ⟨M5,⟨st.n,st.env,(st.nx+1,none)::s.heap,s.nx,st.gl⟩,M.w.heap.size,st.nx,rfl,?_,?_,hm5,hall,i8⟩
    ·have hf:=Sim.frame k3 (a':={ a with defers:=[] }) (n:=st.n) (env:=st.env) hs.n rfl (fun i x hx=>by
      obtain ⟨v,h1,h2⟩:=hs.env i x hx
      exact ⟨v,h1,h2.mono hall⟩)
     refine ⟨hf.H.trans (funext fun k=>?_),hf.nx,hf.n,hf.env,by rw [← i5];exact hf.gl,hf.heap,hf.below,hf.base,hf.defs,hf.old⟩
     unfold St.H
     simp only [St.set,az]
     by_cases hk:st.nx+1=k
     ·rw [if_pos hk,if_pos hk]
     ·rw [if_neg hk,if_neg hk,if_neg hk]
    ·show [markD M.w.heap.size]++a.defers=_
     rw [hs.defs];rfl
  have hall2:LeavesInM (Fw none) 0 P fn a'.tmps (rangePost (Fw none) 0 P (M.w.heap.size+1) (LiftY base w0 M Q QM) { a with defers:=[markD M.w.heap.size]++a.defers }) a'.defers .returning M3.w:=by
   rw [i2]
   exact ⟨_,hres,hfin⟩
  rcases i4 with rfl|rfl
  ·exact hall2
  ·exact hall2
end
end Go.Proofs.YtdndfncpglfdeaaGreatDoor.Ev

namespace Go.Proofs.YtdndfncpglfdeaaGreatDoor.Ev
set_option linter.unusedVariables false
set_option linter.unusedSimpArgs false
open Go.RowKit
def Ret' (P:Program) (rs:List ResultVar) (r:CV) (b:Nat) (e:Exit) (st:St):Prop:=st.H b=some (.obj io)∧Ret P rs r e (st.set b (.obj shutP))
theorem leavesM_of {P:Program} {fn:Func} {tmps:Array Value} {R:Ending→World→Prop} {D:Nat} {w:World} (hD:w.heap[D]?=some (.deferred (some []))) {v:Value} (h1:(results fn tmps).run P (w.putObj D (.deferred none))=.ok v (w.putObj D (.deferred none))) (h2:R (.returned v) (w.putObj D (.deferred none))) :
  LeavesInM (Fw none) 0 P fn tmps R [markD D] .returning w :=
 ⟨by simp,.inl ⟨D,_,rfl,run_takeDeferred hD,v,h1,h2⟩⟩
theorem Sim.dfer {base:Nat} {w0:W0} {st:St} {M:Wd} {a:Act} (hs:Sim base w0 st M a) {b g:Nat} (hH:st.H b=some (.obj io)) (hm:M.m b=.blk g):M.w.heap[g]?=some (.deferred (some [])):=by
 have hMH:M.H b=some (.obj io):=by rw [hs.H];exact hH
 obtain ⟨g0,o1,o2,o3,o4,o5⟩:=hs.heap.obj b _ hMH
 rw [hm] at o1;cases o1
 exact o3.2
theorem con_ofY {P:Program} {gl:List (Nat×List CV)} {f:FuncId} {fn:Func} {c:Code} {args:List CV} {r:CV} (hf:P.funcs[f]?=some fn) (hb:fn.body=some c) (hcall:bB P f=true) (hn:Nat.ble args.length fn.ntmps=true)
  (h:AwpY P c (Ret P fn.results.toList r) (Ret' P fn.results.toList r) { n:=fn.ntmps,env:=am 0 args,heap:=[],nx:=0,gl:=gl }):bm P gl f args r:=by
 refine ⟨hcall,fun w F vals hF hgl hl hv=>?_⟩
 have hle:=Nat.le_of_ble_eq_true hn
 refine (callsIn_wide (n:=0)).1 (callsIn_of_wp_marks (F:=Fw none) hf hb trivial ?_)
 have hsim:Sim w.heap.size ⟨w,F⟩ { n:=fn.ntmps,env:=am 0 args,heap:=[],nx:=0,gl:=gl } { m:=fun _=>.row undef,H:=fun _=>none,nx:=0,F:=F,w:=w,fp:=fun _ _=>False } { tmps:=vals++Array.replicate (fn.ntmps - vals.size) undef,defers:=[] }:=by
  refine ⟨rfl,rfl,by simp;omega,fun i y hy=>?_,hgl,⟨?_,?_,fun b b' g _ h=>absurd rfl h,fun b h=>absurd rfl h,?_,hF,?_⟩,Below.refl _ _,Nat.le_refl _,rfl,fun b h _=>h⟩
  rotate_left
  ·intro b t l h;cases h
  ·intro b E s l h;cases h
  ·intro b _ g h;cases h
  ·intro b p h;cases h
  obtain ⟨x,_,h1,rfl⟩:=iO args 0 i y hy
  rw [Nat.sub_zero] at h1
  have hi:i < vals.size:=by have:=(List.getElem?_eq_some_iff.1 h1).1;omega
  refine ⟨vals[i],by simp [Array.getElem?_append,hi],RA.ofC (M:={ m:=fun _=>.row undef,H:=fun _=>none,nx:=0,F:=F,w:=w,fp:=fun _ _=>False }) (hv i x _ h1 (by simp [hi]))⟩
 refine Code.wpIn_mono ?_ (h _ _ _ _ hsim)
 have fin:∀ (M':Wd) (st':St) (a':Act),Sim w.heap.size ⟨w,F⟩ st' M' a'→∀ e,Ret P fn.results.toList r e st'→∃ v,(results fn a'.tmps).run P M'.w=.ok v M'.w∧∃ v',Ending.returned v=.returned v'∧Below w.heap.size w M'.w∧RC (fun b=>F b∨(w.heap.size≤b∧b < M'.w.heap.size)) M'.w r v':=fun M' st' a' h2 e h4=>by
  obtain ⟨v,hrun,hrc⟩:=results_run (fn:=fn) h2 (F':=fun b=>F b∨(w.heap.size≤b∧b < M'.w.heap.size)) (fun b hb'=>by
   rcases Nat.lt_or_ge b w.heap.size with hc|hc
   ·exact Or.inl (h2.old b hb' hc)
   ·exact Or.inr ⟨hc,h2.heap.frz b hb'⟩) (fun b h1 h2=>Or.inr ⟨h1,h2⟩) h4
  exact ⟨v,hrun,v,rfl,h2.below,hrc⟩
 rintro e a' w' (⟨M',st',rfl,h2,h3,h4⟩|⟨M',st',D,b,rfl,h2,h3,h4,h5,h6,h7⟩)
 ·obtain ⟨v,hrun,hR⟩:=fin M' st' a' h2 e h4
  have hall:LeavesInM (Fw none) 0 P fn a'.tmps (fun e w'=>∃ v,e=.returned v∧Below w.heap.size w w'∧RC (fun b=>F b∨(w.heap.size≤b∧b < w'.heap.size)) w' r v) a'.defers .returning M'.w:=by
   rw [h2.defs];exact ⟨v,hrun,hR⟩
  rcases h4.1 with rfl|rfl
  ·exact hall
  ·exact hall
 ·have hD:=h2.dfer h6 h4
  obtain ⟨M2,k1,k2,k3⟩:=h2.turn (p':=shutP) (o:=.deferred none) h6 h4 (fun _ _ _ h1 h2=>⟨h1,h2⟩)
  obtain ⟨v,hrun,hR⟩:=fin M2 _ { a' with defers:=[] } k2 e h7
  have hall:LeavesInM (Fw none) 0 P fn a'.tmps (fun e w'=>∃ v,e=.returned v∧Below w.heap.size w w'∧RC (fun b=>F b∨(w.heap.size≤b∧b < w'.heap.size)) w' r v) a'.defers .returning M'.w:=by
   rw [h3]
   rw [k1] at hrun hR
   exact leavesM_of hD hrun hR
  rcases h7.1 with rfl|rfl
  ·exact hall
  ·exact hall
section
variable {P:Program} {ops:Array Oper} {Q:Exit→St→Prop} {rest:List Oper} {ty:TypeId} {pos:String} {af:Array Edge} {d:Nat} {n:Nat} {env:List (Nat×AV)} {heap:List (Nat×Option AB)} {nx:Nat} {gl:List (Nat×List CV)}
theorem r_inYC {f:FuncId} {fn:Func} {c:Code} {ad t nt k:Nat} {args:List Operand} {tys:Array TypeId} {ys:List AV} {env':List (Nat×AV)} (hf:P.funcs[f]?=some fn) (hb:fn.body=some c) (hr:fn.results=#[.cell ad t]) (I:TyC P t false k) (hcall:bB P f=true) (hnt:fn.ntmps=nt) (hys:evs ⟨n,env,heap,nx,gl⟩ args=some ys) (hn:Nat.ble ys.length nt=true) (he:dl 0 ys=env') (hd:Nat.blt d n=true)
  (h:AwpY P c (fun _ _=>False) (fun b e s=>(e=.normal∨e=.ret)∧s.gl=gl∧s.H b=some (.obj io)∧∃ bb off t' l y,bf ad s.env=some (.ptr bb off)∧s.H bb=some (.cells t' l)∧l[off]?=some y∧aP P ops Q rest ⟨n,(d,y)::env,(b,none)::s.heap,s.nx,gl⟩) ⟨nt,env',heap,nx,gl⟩) :
  aP P ops Q (⟨some d,.call ⟨.value (.func f),args.toArray,tys⟩,ty,pos,af,none⟩::rest) ⟨n,env,heap,nx,gl⟩:=by
 subst hnt;subst he
 intro base w0 M a hs
 obtain ⟨e1,e2⟩:=dN hys
 have hn:=Nat.le_of_ble_eq_true hn
 have hsim:Sim base w0 ⟨fn.ntmps,dl 0 ys,heap,nx,gl⟩ M { tmps:=(args.map a.eval).toArray++Array.replicate (fn.ntmps - (args.map a.eval).toArray.size) undef,defers:=[] }:=by
  refine ⟨hs.H,hs.nx,by simp;omega,fun i y hy=>?_,hs.gl,hs.heap,hs.below,hs.base,rfl,hs.old⟩
  obtain ⟨_,h1⟩:=eA ys 0 i y hy
  rw [Nat.sub_zero] at h1
  have hi:i < args.length:=by have:=(List.getElem?_eq_some_iff.1 h1).1;omega
  exact ⟨a.eval args[i],by simp [Array.getElem?_append,hi],hs.ev (e2 i args[i] y (by simp [hi]) h1)⟩
 refine eS rfl (eQ hcall a M.w) (R:=fun v w''=>wpList P ops (bN base w0 M Q) rest (a.put (some d) v) w'') ((callsIn_wide (n:=0)).1 (callsIn_of_wp_marks (F:=Fw none) hf hb trivial (Code.wpIn_mono ?_ (h base w0 M _ hsim)))) (fun v w'' hR=>hR)
 rintro e a' w' (⟨M',st',_,_,_,h4⟩|⟨M1,s,D,b,rfl,h2,h3,h4,h5,h6,h7,h8,bb,off,t',l,y,h9,h10,h11,h12⟩)
 ·exact h4.elim
 have hD:=h2.dfer h8 h4
 obtain ⟨M2,k1,k2,k3⟩:=h2.turn (p':=shutP) (o:=.deferred none) h8 h4 (fun _ _ _ h1 h2=>⟨h1,h2⟩)
 obtain ⟨M3,j1,j2,j3,j4⟩:=k2.forget b
 have hne:b≠bb:=fun e=>by rw [e,h10] at h8;cases h8
 have hext:=h5.trans (k3.trans j4)
 have hHH:∀ q,St.H ⟨s.n,s.env,(b,none)::(s.set b (.obj shutP)).heap,s.nx,s.gl⟩ q=if b=q then none else s.H q:=fun q=>by
  unfold St.H
  simp only [St.set,az]
  by_cases hq:b=q
  ·rw [if_pos hq,if_pos hq]
  ·rw [if_neg hq,if_neg hq,if_neg hq]
 obtain ⟨u,g1,g2⟩:=j3.env ad _ h9
 cases g2 with
 | ptr hm =>
 rename_i g
 obtain ⟨g',arr,q1,q2,q3,q4,q5,q6⟩:=j3.heap.cells bb t' l (by rw [j3.H];show St.H ⟨s.n,s.env,(b,none)::(s.set b (.obj shutP)).heap,s.nx,s.gl⟩ bb=_;rw [hHH,if_neg hne];exact h10)
 rw [hm] at q1;cases q1
 have hlt:off < arr.size:=by rw [← q5];exact (List.getElem?_eq_some_iff.1 h11).1
 have hRA:=q6 off y arr[off] h11 (by simp [hlt])
 have hw3:M3.w=M1.w.putObj D (.deferred none):=j1.trans k1
 have hres:(results fn a'.tmps).run P (M1.w.putObj D (.deferred none))=.ok arr[off] (M1.w.putObj D (.deferred none)):=by
  rw [← hw3]
  have:=iC I M3.w ⟨g,off,none⟩ arr[off] (by simp [World.cell?,q4,hlt])
  simp only [Instr.loadAt,Instr.sureAddr,Sem.run_bind,Sem.run_pure,Result.andThen_ok] at this
  unfold results
  rw [hr]
  have g1':a'.tmps[ad]?=some (.pointer (some ⟨g,off,none⟩)):=g1
  simp [Array.getD_eq_getD_getElem?,g1',asAddr,this]
 generalize arr[off]=v at *
 have hd':=ba hd
 have hcaller:Sim base w0 ⟨n,(d,y)::env,(b,none)::s.heap,s.nx,gl⟩ M3 (a.put (some d) v):=by
  refine ⟨j3.H.trans (funext fun q=>?_),j3.nx,by show (a.tmps.setIfInBounds d v).size=_;rw [Array.size_setIfInBounds];exact hs.n,fun i z hz=>?_,fun g xs hg=>j3.gl g xs (by show bf g s.gl=_;rw [h7];exact hg),j3.heap,j3.below,j3.base,by simpa [Act.put] using hs.defs,j3.old⟩
  ·show St.H ⟨s.n,s.env,(b,none)::(s.set b (.obj shutP)).heap,s.nx,s.gl⟩ q=_
   rw [hHH]
   unfold St.H
   simp only [az]
   by_cases hq:b=q
   ·rw [if_pos hq,if_pos hq]
   ·rw [if_neg hq,if_neg hq]
  ·rw [az] at hz
   by_cases hi:d=i
   ·subst hi
    rw [if_pos rfl] at hz
    simp only [Option.some.injEq] at hz;subst hz
    exact ⟨v,by simp [Act.put,hs.n,hd'],hRA⟩
   ·rw [if_neg hi] at hz
    obtain ⟨u,q1,q2⟩:=hs.env i z hz
    exact ⟨u,by simp [Act.put,Array.getElem?_setIfInBounds_ne hi,q1],q2.mono hext⟩
 have hgoal:wpList P ops (bN base w0 M Q) rest (a.put (some d) v) (M1.w.putObj D (.deferred none)):=by
  rw [← hw3];exact aM (fun e a w=>bN.ext hext) _ _ _ (h12 base w0 M3 _ hcaller)
 have hall:LeavesInM (Fw none) 0 P fn a'.tmps (fun e w''=>∃ v,e=.returned v∧wpList P ops (bN base w0 M Q) rest (a.put (some d) v) w'') a'.defers .returning M1.w:=by
  rw [h3]
  exact leavesM_of hD hres ⟨v,rfl,hgoal⟩
 rcases h6 with rfl|rfl
 ·exact hall
 ·exact hall
end
end Go.Proofs.YtdndfncpglfdeaaGreatDoor.Ev

namespace Go.Proofs.YtdndfncpglfdeaaGreatDoor.Ev
set_option linter.unusedVariables false
set_option linter.unusedSimpArgs false
open Go.RowKit
section
variable {base:Nat} {w0:W0} {st:St} {M:Wd} {a:Act}
theorem ownsRow_cut {w:World} {base:Nat} {e:TypeId} {size g cap n m:Nat} {xs:List Value} (hm:m≤n) (hn:0 < n) (h:w.ownsRow base e size (.slice (some ⟨g,0,none⟩) n cap) n xs):w.ownsRow base e size (.slice (some ⟨g,0,none⟩) m cap) m (xs.take (m * size)):=by
 obtain ⟨h1,h2⟩:=h
 have hle:m * size≤n * size:=Nat.mul_le_mul_right _ hm
 rcases h2 with ⟨h0,_⟩|⟨g',cap',cur,hv,hg,hh,hc,hcap,hsz,htake⟩
 ·cases h0
 ·cases hv
  refine ⟨by rw [List.length_take,h1];exact Nat.min_eq_left hle,.inr ⟨g,cap,cur,rfl,hg,hh,by omega,hcap,hsz,?_⟩⟩
  rw [← htake,List.take_take,Nat.min_eq_left hle]
theorem Sim.pop (hs:Sim base w0 st M a) {b E size n' m:Nat} {xs:List CV} (hMH:M.H b=some (.vec E size xs)) (hn:xs.length=n' * size) (h0:0 < n') (hm:m≤n') :
  ∃ g cap,M.m b=.row (.slice (some ⟨g,0,none⟩) n' cap)∧n'≤cap∧∃ M',M'.w=M.w∧Sim base w0 ⟨st.n,st.env,(st.nx,some (.vec E size (xs.take (m * size))))::(b,none)::st.heap,st.nx+1,st.gl⟩ M' a∧Ext M M'∧RA M' (.vec st.nx m) (.slice (some ⟨g,0,none⟩) m cap):=by
 obtain ⟨v0,n0,cs,v1,v2,v3,v4,v5,v6⟩:=hs.heap.vec b E size xs hMH
 have hn0:n0=n':=Nat.eq_of_mul_eq_mul_right v3 (by rw [← v2,hn])
 subst hn0
 obtain ⟨g,cap,hv,hcap⟩:∃ g cap,v0=.slice (some ⟨g,0,none⟩) n0 cap∧n0≤cap:=by
  rcases v4.2 with ⟨_,h⟩|⟨g,cap,cur,h,_,_,h2,_⟩
  ·omega
  ·exact ⟨g,cap,h,h2⟩
 subst hv
 have hown:=ownsRow_cut hm h0 v4
 let M':Wd:={ M with m:=fun k=>if k=M.nx then .row (.slice (some ⟨g,0,none⟩) m cap) else M.m k,H:=St.H ⟨st.n,st.env,(st.nx,some (.vec E size (xs.take (m * size))))::(b,none)::st.heap,st.nx+1,st.gl⟩,nx:=M.nx+1 }
 have hH:∀ k,M'.H k=if M.nx=k then some (.vec E size (xs.take (m * size))) else if b=k then none else M.H k:=fun k=>by
  show St.H _ k=_
  unfold St.H
  simp only [az,hs.nx]
  by_cases h1:st.nx=k
  ·rw [if_pos h1,if_pos h1]
  ·rw [if_neg h1,if_neg h1]
   by_cases h2:b=k
   ·rw [if_pos h2,if_pos h2]
   ·rw [if_neg h2,if_neg h2,hs.H];rfl
 have hm0:M'.m M.nx=.row (.slice (some ⟨g,0,none⟩) m cap):=by simp [M']
 have hm':∀ k,M.nx≠k→M'.m k=M.m k:=fun k hk=>by simp [M',Ne.symm hk]
 have hblk:(M'.m M.nx).block=(M.m b).block:=by rw [hm0,v1];rfl
 have hold:∀ k,M.nx≠k→∀ x,M'.H k=some x→M.H k=some x∧k≠b:=fun k hk x hx=>by
  rw [hH,if_neg hk] at hx
  by_cases h:b=k
  ·rw [if_pos h] at hx;cases hx
  ·rw [if_neg h] at hx;exact ⟨hx,Ne.symm h⟩
 have hno:∀ k,M.nx≠k→M'.H k≠none→M.H k≠none∧k≠b:=fun k hk hn=>by
  obtain ⟨x,hx⟩:=Option.ne_none_iff_exists'.1 hn
  obtain ⟨e1,e2⟩:=hold k hk x hx
  exact ⟨by rw [e1];simp,e2⟩
 have hbn:M.H b≠none:=by rw [hMH];simp
 have hext:Ext M M':=by
  refine ⟨fun k g' hk=>?_,fun k E' size' l' hk hl=>?_,by simp [M'],fun k hk=>⟨hk,rfl⟩⟩
  ·rw [hm' k (fun he=>hs.heap.fresh k (by omega) g' hk)];exact hk
  ·exact ⟨l',(hold k (by omega) _ hl).1,Nat.le_refl _,fun _=>hm' k (by omega)⟩
 have hnx:M.nx=st.nx:=hs.nx
 refine ⟨g,cap,v1,hcap,M',rfl,⟨rfl,by show M.nx+1=st.nx+1;rw [hs.nx],hs.n,fun i y hy=>?_,fun g xs hg=>(hs.gl g xs hg).mono hext,⟨?_,?_,?_,?_,?_,hs.heap.frz,?_⟩,hs.below,hs.base,hs.defs,hs.old⟩,hext,?_⟩
 ·obtain ⟨u,e1,e2⟩:=hs.env i y hy
  exact ⟨u,e1,e2.mono hext⟩
 ·intro k t' l' hl
  have hk:M.nx≠k:=fun e=>by rw [hH,if_pos e] at hl;cases hl
  obtain ⟨g',arr',e1,e2,e3,e4,e5,e6⟩:=hs.heap.cells k t' l' (hold k hk _ hl).1
  exact ⟨g',arr',by rw [hm' k hk];exact e1,e2,e3,e4,e5,fun i x u hx hu=>(e6 i x u hx hu).mono hext⟩
 ·intro k E' size' l' hl
  by_cases hk:M.nx=k
  ·subst hk
   rw [hH,if_pos rfl] at hl
   simp only [Option.some.injEq,AB.vec.injEq] at hl
   obtain ⟨rfl,rfl,rfl⟩:=hl
   refine ⟨_,m,cs.take (m * size),hm0,?_,v3,hown,fun i x u hx hu=>?_,fun g' hg'=>v6 g' hg'⟩
   ·rw [List.length_take,hn];exact Nat.min_eq_left (Nat.mul_le_mul_right _ hm)
   ·have hi:i < m * size:=by
     have:=(List.getElem?_eq_some_iff.1 hx).1
     rw [List.length_take] at this;omega
    rw [List.getElem?_take_of_lt hi] at hx hu
    exact v5 i x u hx hu
  ·obtain ⟨v,n,cs',e1,e2⟩:=hs.heap.vec k E' size' l' (hold k hk _ hl).1
   exact ⟨v,n,cs',by rw [hm' k hk];exact e1,e2⟩
 ·intro k k' q hkk hk hk' hq hq'
  by_cases h5:M.nx=k
  ·subst h5
   rw [hblk] at hq
   rw [hm' k' hkk] at hq'
   obtain ⟨n1,n2⟩:=hno k' hkk hk'
   exact hs.heap.sep b k' q (Ne.symm n2) hbn n1 hq hq'
  ·obtain ⟨n1,n2⟩:=hno k h5 hk
   rw [hm' k h5] at hq
   by_cases h6:M.nx=k'
   ·subst h6
    rw [hblk] at hq'
    exact hs.heap.sep k b q n2 n1 hbn hq hq'
   ·rw [hm' k' h6] at hq'
    exact hs.heap.sep k k' q hkk n1 (hno k' h6 hk').1 hq hq'
 ·intro k hk
  show k < M.nx+1
  by_cases h5:M.nx=k
  ·omega
  ·have:=hs.heap.lt k (hno k h5 hk).1;omega
 ·intro k hk g'
  have hk:M.nx+1≤k:=hk
  rw [hm' k (by omega)]
  exact hs.heap.fresh k (by omega) g'
 ·intro k p hp
  have hk:M.nx≠k:=fun e=>by rw [hH,if_pos e] at hp;cases hp
  obtain ⟨h7,h8⟩:=hold k hk _ hp
  obtain ⟨g',e1,e2,e3,e4,e5⟩:=hs.heap.obj k p h7
  refine ⟨g',by rw [hm' k hk];exact e1,e2,e3,e4,fun b' q hbb hq=>?_⟩
  by_cases h9:M.nx=b'
  ·subst h9
   refine ⟨fun _=>?_,fun p' hp'=>by rw [hH,if_pos rfl] at hp';cases hp'⟩
   rw [hblk]
   exact (e5 b q (Ne.symm h8) hq).1 hbn
  ·refine ⟨fun hn=>?_,fun p' hp'=>(e5 b' q hbb hq).2 p' (hold b' h9 _ hp').1⟩
   rw [hm' b' h9]
   exact (e5 b' q hbb hq).1 (hno b' h9 hn).1
 ·rw [← hnx]
  refine .vec (by show M.nx < M.nx+1;omega) rfl (fun E' size' l' hl=>?_)
  rw [hH,if_pos rfl] at hl
  simp only [Option.some.injEq,AB.vec.injEq] at hl
  obtain ⟨rfl,rfl,rfl⟩:=hl
  refine ⟨?_,fun _=>hm0⟩
  rw [List.length_take,hn];exact Nat.le_of_eq (Nat.min_eq_left (Nat.mul_le_mul_right _ hm)).symm
end
section
variable {P:Program} {ops:Array Oper} {Q:Exit→St→Prop} {rest:List Oper} {ty:TypeId} {pos:String} {af:Array Edge} {d:Nat} {n:Nat} {env:List (Nat×AV)} {heap:List (Nat×Option AB)} {nx:Nat} {gl:List (Nat×List CV)}
theorem r_pop {α:Type} {enc:α→List CV} {x q:Operand} {t E size bytes b n':Nat} [I:SlT P t E size bytes] {l:List α} {k2:IntKind} {i2:Int} (m:Nat) (hx:St.ev ⟨n,env,heap,nx,gl⟩ x=some (.vec b n')) (hH:St.H ⟨n,env,heap,nx,gl⟩ b=some (.vec E size (l.flatMap enc))) (J:EncL enc size) (hn:l.length=n') (hq:St.ev ⟨n,env,heap,nx,gl⟩ q=some (.c (.v (.int k2 i2)))) (h2:i2=(m:Int)) (h0:0 < n') (hm:m≤n') (hd:Nat.blt d n=true)
  (h:aP P ops Q rest ⟨n,(d,.vec nx m)::env,(nx,some (.vec E size ((l.take m).flatMap enc)))::(b,none)::heap,nx+1,gl⟩):aP P ops Q (⟨some d,.slice t x none (some q) none,ty,pos,af,none⟩::rest) ⟨n,env,heap,nx,gl⟩:=by
 intro base w0 M a hs
 have hMH:M.H b=some (.vec E size (l.flatMap enc)):=by rw [hs.H];exact hH
 have hlen:=av J.len l
 obtain ⟨g,cap,e1,e2,M',e3,e4,e5,e6⟩:=hs.pop hMH (n':=n') (m:=m) (by rw [hlen,hn]) h0 hm
 have hv:=hs.ev hx
 have hav:a.eval x=.slice (some ⟨g,0,none⟩) n' cap:=by
  cases hv with
  | vec hb ho hh =>
   have:=(hh _ _ _ hMH).2 (by rw [hlen,hn])
   rw [e1] at this
   injection this with this
   exact this.symm
 have hqv:=(hs.ev hq).bool
 obtain ⟨i,z,f1,f2,f3,f4,f5,f6⟩:=I.out
 rw [flat_take J.len] at e4
 refine wl_value (u:=.slice (some ⟨g,0,none⟩) m cap) (w':=M.w) rfl ?_ ?_
 ·subst h2
  simp only [execOp,hav,Option.map_some,hqv]
  simp [Instr.sliceAt,run_underlying f1,Instr.slice,Instr.sliceBounds,Instr.sliceBound,asIntOf,sizeOf,typeInfo,f2,f4,show m≤cap by omega]
  intro _
  have:=Kit.addr_add g 0 0
  simpa using this
 ·rw [← e3]
  exact aM (fun e a w=>bN.ext e5) _ _ _ (h base w0 M' _ (e4.put hd e6))
end
end Go.Proofs.YtdndfncpglfdeaaGreatDoor.Ev

namespace Go.Proofs.YtdndfncpglfdeaaGreatDoor.Ev
set_option linter.unusedVariables false
set_option linter.unusedSimpArgs false
open Go.RowKit
section
variable {P:Program} {ops:Array Oper} {Q:Exit→St→Prop} {X:List Oper→St→Prop} {rest:List Oper} {d:Nat} {ty:TypeId} {pos:String} {af:Array Edge} {n:Nat} {env:List (Nat×AV)} {heap:List (Nat×Option AB)} {nx:Nat} {gl:List (Nat×List CV)}
def arrAB (P:Program) (t len m:Nat):Bool :=
 match P.underlying t with
 | some (.array l e)=>match tyB P e with
  | some (true,s)=>l == len && s == m
  | _=>false
 | _=>false
class ArrA (P:Program) (t:Nat) (len m:outParam Nat):Prop where
 h:arrAB P t len m=true
theorem fN [W:Walk P X] {x y:Operand} {t:TypeId} {len m:Nat} {kk:IntKind} {idx:Int} {xs zs:List AV} [I:ArrA P t len m] (k:Nat) (hx:St.ev ⟨n,env,heap,nx,gl⟩ x=some (.agg xs)) (hy:St.ev ⟨n,env,heap,nx,gl⟩ y=some (.c (.v (.int kk idx)))) (hk:idx=(k:Int)) (hlt:k < len) (hle:k * m+m≤xs.length) (hz:(xs.drop (k * m)).take m=zs) (hd:Nat.blt d n=true) (h:X rest ⟨n,(d,.agg zs)::env,heap,nx,gl⟩):X (⟨some d,.index t x y,ty,pos,af,none⟩::rest) ⟨n,env,heap,nx,gl⟩:=by
 subst hz
 refine aY (st:=⟨n,env,heap,nx,gl⟩) rfl rfl hd (fun _ _ M a hs=>?_) h
 have hv:=hs.ev (by simp [Op.operands,Call.operands]) hx
 have hw:=(hs.ev (by simp [Op.operands,Call.operands]) hy).bool
 have hI:=I.h
 unfold arrAB at hI
 split at hI
 ·rename_i l e hu
  split at hI
  ·rename_i s ht
   simp only [Bool.and_eq_true,beq_iff_eq] at hI
   obtain ⟨rfl,rfl⟩:=hI
   obtain ⟨dd,ii,g1,g2,g3,g4⟩:=TyC.out (P:=P) (t:=e) ⟨ht⟩
   generalize he:a.eval x=u at hv
   cases hv with
   | agg hl hh =>
    rename_i vs
    refine ⟨.agg (vs.extract (k * s) (k * s+s)),?_,.agg ?_ (fun q y u hy hu'=>?_)⟩
    ·have hagg:(isAgg e).run P M.w=.ok true M.w:=by
      unfold isAgg
      rw [Sem.run_bind,run_underlying g1 M.w]
      cases dd<;>simp_all
     simp only [execOp,he,hw]
     subst hk
     have hsz:(sizeOf e).run P M.w=.ok s M.w:=by
      rw [← g4]
      simp [sizeOf,typeInfo,g3]
     simp [Instr.index,asIntOf,run_underlying hu,part,hagg,hsz,hlt]
    ·simp;omega
    ·have hk:q < s:=by have:=(List.getElem?_eq_some_iff.1 hy).1;simp at this;omega
     rw [List.getElem?_take_of_lt hk,List.getElem?_drop] at hy
     refine hh _ y u hy ?_
     rw [Array.getElem?_extract] at hu'
     split at hu'
     ·exact hu'
     ·cases hu'
  ·cases hI
 ·cases hI
end
end Go.Proofs.YtdndfncpglfdeaaGreatDoor.Ev

namespace Go.Proofs.YtdndfncpglfdeaaGreatDoor.Ev
set_option linter.unusedVariables false
set_option linter.unusedSimpArgs false
open Go.RowKit
section
variable {P:Program} {ops:Array Oper} {Q:Exit→St→Prop} {rest:List Oper} {d:Nat} {ty:TypeId} {pos:String} {af:Array Edge} {n:Nat} {env:List (Nat×AV)} {heap:List (Nat×Option AB)} {nx:Nat} {gl:List (Nat×List CV)}
def Back0 (gl:List (Nat×List CV)) (K:List (Nat×Option AB)→Nat→Prop):Exit→St→Prop
 | e,s=>(e=.normal∨e=.ret)∧s.gl=gl∧K s.heap s.nx
theorem back0_normal {K:List (Nat×Option AB)→Nat→Prop} (hK:K heap nx):Back0 gl K .normal ⟨n,env,heap,nx,gl⟩:=⟨Or.inl rfl,rfl,hK⟩
end
end Go.Proofs.YtdndfncpglfdeaaGreatDoor.Ev
