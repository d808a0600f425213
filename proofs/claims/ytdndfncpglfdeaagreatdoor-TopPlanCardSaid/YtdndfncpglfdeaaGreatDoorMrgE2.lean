/- Ev9 Ev11 Ev12 Ev13 Ev14 Ev15: texts laid together. -/
import Derived.Test.YtdndfncpglfdeaaGreatDoorMrgE1
import Derived.Laws.StructEq

namespace Go.Proofs.YtdndfncpglfdeaaGreatDoor.Ev
set_option linter.unusedVariables false
set_option linter.unusedSimpArgs false
open Go.RowKit
theorem ai {s:St} {nx:Nat}:EnvW s nx []:=trivial
theorem ae {s:St} {nx i:Nat} {x:AV} {l:List (Nat×AV)} (h1:bf i s.env=some x) (h2:AV.lt nx x=true) (h3:EnvW s nx l):EnvW s nx ((i,x)::l):=⟨h1,h2,h3⟩
theorem ac {s:St} {nx:Nat}:HeapW s nx []:=trivial
theorem ab {s:St} {nx i:Nat} {x:AB} {l:List (Nat×Option AB)} (h1:s.H i=some x) (h0:Nat.blt i nx=true) (h2:abLt nx x=true) (h3:HeapW s nx l):HeapW s nx ((i,some x)::l):=⟨h1,h0,h2,h3⟩
theorem ak {n:Nat} {env env':List (Nat×AV)} {heap heap':List (Nat×Option AB)} {nx nx':Nat} {gl:List (Nat×List CV)} (h:Nat.ble nx' nx=true) (he:EnvW ⟨n,env,heap,nx,gl⟩ nx' env') (hh:HeapW ⟨n,env,heap,nx,gl⟩ nx' heap'):Weak ⟨n,env,heap,nx,gl⟩ ⟨n,env',heap',nx',gl⟩:=⟨rfl,rfl,Nat.le_of_ble_eq_true h,fun i x hx=>EnvW.get he i x hx,fun b x hx=>HeapW.get hh b x (St.H_some hx)⟩
theorem au {P:Program} {c:Code} {Q:Exit→St→Prop} {n:Nat} {env:List (Nat×AV)} {heap:List (Nat×Option AB)} {nx:Nat} {gl:List (Nat×List CV)} {G:Type} (inv:G→Prop) (μ:G→Nat) (E:G→List (Nat×AV)) (Hp:G→List (Nat×Option AB)) (X:Nat) (g0:G) (h0:inv g0)
  (hw:Weak ⟨n,env,heap,nx,gl⟩ ⟨n,E g0,Hp g0,X,gl⟩) (hx:Nat.ble nx X=true)
  (round:∀ g,inv g→gf P c (thn (fun st'=>∃ g',μ g' < μ g∧inv g'∧Weak st' ⟨n,E g',Hp g',X,gl⟩) Q) ⟨n,E g,Hp g,X,gl⟩):gf P (.loop c) Q ⟨n,env,heap,nx,gl⟩ :=
 aw_loop (fun m st=>∃ g,m=μ g∧inv g∧st=⟨n,E g,Hp g,X,gl⟩) (μ g0) ⟨_,⟨g0,rfl,h0,rfl⟩,hw,Nat.le_of_ble_eq_true hx⟩ (by
  rintro _ _ ⟨g,rfl,hg,rfl⟩
  refine aw_mono (round g hg) fun e st hq=>?_
  cases e with
  | normal =>
   obtain ⟨g',h1,h2,h3⟩:=hq
   exact ⟨_,_,h1,⟨g',rfl,h2,rfl⟩,h3,Nat.le_refl _⟩
  | _=>exact hq)
theorem aB {P:Program} {t:Nat} {kk:IntKind} {k m:Int} {st:St} (h:bf t st.env=some (.c (.v (.int kk k)))) (he:k=m):Ret P [.tmp t] (.v (.int kk m)) .ret st:=cL (.tmp h (Or.inl (by rw [he])))
theorem aK {P:Program} {t:Nat} {k m:Bool} {st:St} (h:bf t st.env=some (.c (.v (.bool k)))) (he:k=m):Ret P [.tmp t] (.v (.bool m)) .ret st:=cL (.tmp h (Or.inl (by rw [he])))
theorem rc_one {F:Nat→Prop} {w:World} {x:CV} {u:Value} (h:RC F w x u) (hc:x.cellB=true):u.oneCell'=true:=by
 cases h with
 | v x=>exact hc
 | agg=>cases hc
 | tup=>cases hc
 | nil=>rfl
 | e0=>cases hc
 | lst=>rfl
def cvs:List AV→Option (List CV)
 | []=>some []
 | .c x::l=>bif x.cellB then (cvs l).map (x::·) else none
 | _::_=>none
def cvL:AV→Option (List CV)
 | .agg xs=>cvs xs
 | .c x=>bif x.cellB then some [x] else none
 | _=>none
theorem cvs_get {M:Wd}:∀ {xs:List AV} {zs:List CV},cvs xs=some zs→zs.length=xs.length∧(∀ z∈zs,z.cellB=true)∧∀ (i:Nat) (x:AV),xs[i]?=some x→∃ z,zs[i]?=some z∧x=.c z
 | [],zs,h=>by simp only [cvs,Option.some.injEq] at h;subst h;exact ⟨rfl,fun z hz=>by simp at hz,fun i x h=>by simp at h⟩
 | .c y::l,zs,h=>by
  simp only [cvs] at h
  cases hb:y.cellB with
  | false=>rw [hb] at h;cases h
  | true =>
   rw [hb] at h
   simp only [cond_true,Option.map_eq_some_iff] at h
   obtain ⟨ws,h1,rfl⟩:=h
   obtain ⟨e1,e2,e3⟩:=cvs_get (M:=M) h1
   refine ⟨by simp [e1],fun z hz=>?_,fun i x hx=>?_⟩
   ·rcases List.mem_cons.1 hz with rfl|hz
    ·exact hb
    ·exact e2 z hz
   ·cases i with
    | zero=>simp at hx;exact ⟨y,rfl,hx.symm⟩
    | succ i=>exact e3 i x (by simpa using hx)
 | .agg _::_,zs,h=>by cases h
 | .tup _::_,zs,h=>by cases h
 | .ptr _ _::_,zs,h=>by cases h
 | .vec _ _::_,zs,h=>by cases h
 | .vptr _ _ _::_,zs,h=>by cases h
 | .eptr _ _::_,zs,h=>by cases h
 | .fn _ _::_,zs,h=>by cases h
 | .ghost _ _ _::_,zs,h=>by cases h
 | .ref _ _::_,zs,h=>by cases h
theorem cvL_ra {M:Wd} {y:AV} {u:Value} {zs:List CV} (h:cvL y=some zs) (hr:RA M y u):zs.length=u.cells.size∧(∀ v∈u.cells.toList,v.oneCell'=true)∧∀ (i:Nat) (z:CV) (v:Value),zs[i]?=some z→u.cells[i]?=some v→RC M.F M.w z v:=by
 cases y with
 | agg xs =>
  obtain ⟨e1,e2,e3⟩:=cvs_get (M:=M) (show cvs xs=some zs from h)
  cases hr with
  | agg hl hh =>
   rename_i vs
   have key:∀ (i:Nat) (z:CV) (v:Value),zs[i]?=some z→vs[i]?=some v→RC M.F M.w z v:=fun i z v hz hv=>by
    have hi:i < xs.length:=by rw [← e1];exact (List.getElem?_eq_some_iff.1 hz).1
    obtain ⟨z',g1,g2⟩:=e3 i xs[i] (by simp [hi])
    rw [hz] at g1;cases g1
    have:=hh i xs[i] v (by simp [hi]) hv
    rw [g2] at this
    cases this with
    | c h=>exact h
   refine ⟨by rw [e1];exact hl,fun v hv=>?_,key⟩
   have hv:v∈vs.toList:=hv
   obtain ⟨i,hi,rfl⟩:=List.mem_iff_getElem.1 hv
   have hi3:i < vs.size:=by simpa using hi
   have hi2:i < zs.length:=by rw [e1,hl];exact hi3
   exact rc_one (key i zs[i] vs.toList[i] (by simp [hi2]) (by simp [hi3])) (e2 _ (List.getElem_mem hi2))
 | c x =>
  simp only [cvL] at h
  cases hb:x.cellB with
  | false=>rw [hb] at h;cases h
  | true =>
   rw [hb] at h
   simp only [cond_true,Option.some.injEq] at h;subst h
   cases hr with
   | c hr =>
    have ho:=rc_one hr hb
    rw [dQ ho]
    refine ⟨rfl,by simpa using ho,fun i z v hz hv=>?_⟩
    cases i with
    | zero=>simp at hz hv;subst hz;subst hv;exact hr
    | succ i=>simp at hz
 | _=>cases h
def Src (P:Program) (st:St) (x:Operand) (size m:Nat) (ys:List CV):Prop :=
 ∀ base w0 M a,Sim base w0 st M a→∃ (ad:Option Addr) (cap:Nat) (cs:List Value),a.eval x=.slice ad m cap∧cs.length=m * size∧ys.length=m * size∧(ad=none→m=0)∧(∀ a0,ad=some a0→∀ j u,cs[j]?=some u→M.w.cell? (a0.add j)=some u) ∧
  (∀ u∈cs,u.oneCell'=true)∧∀ (i:Nat) (z:CV) (v:Value),ys[i]?=some z→cs[i]?=some v→RC M.F M.w z v
theorem pair_one {F:Nat→Prop} {w:World} {ys:List CV} {cs:List Value} (hl:cs.length=ys.length) (hone:ys.all CV.cellB=true) (h:∀ (i:Nat) (z:CV) (v:Value),ys[i]?=some z→cs[i]?=some v→RC F w z v):∀ u∈cs,u.oneCell'=true:=by
 intro u hu
 obtain ⟨i,hi,rfl⟩:=List.mem_iff_getElem.1 hu
 have hi2:i < ys.length:=by omega
 exact rc_one (h i ys[i] cs[i] (by simp [hi2]) (by simp [hi])) (List.all_eq_true.1 hone _ (List.getElem_mem hi2))
theorem src_vec {P:Program} {st:St} {x:Operand} {b m E size:Nat} {ys:List CV} (hx:st.ev x=some (.vec b m)) (hH:st.H b=some (.vec E size ys)) (hn:ys.length=m * size) (hone:ys.all CV.cellB=true):Src P st x size m ys:=by
 intro base w0 M a hs
 have hM:M.H b=some (.vec E size ys):=by rw [hs.H];exact hH
 have hv:=hs.ev hx
 generalize a.eval x=u at hv ⊢
 cases hv with
 | vec hb ho hh =>
  obtain ⟨_,h2⟩:=hh E size ys hM
  obtain ⟨v,n',cs,e1,e2,e3,e4,e5,e6⟩:=hs.heap.vec b E size ys hM
  rw [h2 hn] at e1;cases e1
  have hnn:m=n':=Nat.eq_of_mul_eq_mul_right e3 (by rw [← hn,e2])
  subst hnn
  have hlen:cs.length=ys.length:=by rw [e4.1,e2]
  have h1:=pair_one hlen hone e5
  rcases e4.2 with ⟨rfl,hn0⟩|⟨g,cap,cur,rfl,f1,f2,f3⟩
  ·exact ⟨none,0,cs,by rw [hn0],e4.1,hn,fun _=>hn0,fun a0 h=>(by cases h),h1,e5⟩
  ·exact ⟨_,cap,cs,rfl,e4.1,hn,fun h=>(by cases h),fun a0 h=>(by cases h;exact World.ownsRow.cells e4 (g:=g) rfl),h1,e5⟩
theorem src_lst {P:Program} {st:St} {x:Operand} {m size:Nat} {ys:List CV} (hx:st.ev x=some (.c (.lst size ys))) (hpos:0 < size) (hn:ys.length=m * size) (hone:ys.all CV.cellB=true):Src P st x size m ys:=by
 intro base w0 M a hs
 have hv:=hs.ev hx
 generalize a.eval x=u at hv ⊢
 cases hv with
 | c hv =>
  cases hv with
  | nil =>
   rename_i cap ad
   have:m=0:=by
    simp only [List.length_nil] at hn
    rcases Nat.mul_eq_zero.1 hn.symm with h|h<;>omega
   subst this
   exact ⟨ad,cap,[],rfl,by simp,hn,fun _=>rfl,fun a0 h=>fun j u hu=>by simp at hu,fun u hu=>by simp at hu,fun i z v hz=>by simp at hz⟩
  | lst cs hn' hc hF hcell hr =>
   rename_i blk off n cap
   have hnn:n=m:=Nat.eq_of_mul_eq_mul_right hpos (by rw [← hn',hn])
   subst hnn
   have hget:∀ (i:Nat) (v:Value),((List.range ys.length).map cs)[i]?=some v→i < ys.length∧cs i=v:=fun i v hv=>by
    have hi:i < ys.length:=by have:=(List.getElem?_eq_some_iff.1 hv).1;simpa using this
    exact ⟨hi,by simpa [hi] using hv⟩
   have hpair:∀ (i:Nat) (z:CV) (v:Value),ys[i]?=some z→((List.range ys.length).map cs)[i]?=some v→RC M.F M.w z v:=fun i z v hz hv=>by
    rw [← (hget i v hv).2];exact hr i z hz
   refine ⟨_,cap,(List.range ys.length).map cs,rfl,by simpa using hn',hn',fun h=>(by cases h),fun a0 h=>?_,pair_one (by simp) hone hpair,hpair⟩
   cases h
   intro j u hu
   obtain ⟨hj,e⟩:=hget j u hu
   rw [Kit.addr_add,hcell j ys[j] (by simp [hj]),e]
section
variable {P:Program}
theorem run_append_nil0 {t E size bytes:Nat} (I:SlT P t E size bytes) (w:World) (base:Nat) (ty:TypeId) (v:Value) (n:Nat) (xs:List Value) (hown:w.ownsRow base E size v n xs) (c:Nat):(Builtin.append_ #[t,t] ty #[v,.slice none 0 c]).run P w=.ok v w:=by
 obtain ⟨i,z,h1,h2,h3,h4,h5,h6⟩:=I.out
 rcases hown.2 with ⟨rfl,h0⟩|⟨g,cap,cur,rfl,hg,hh,hnc,_⟩
 ·simp [Builtin.append_,run_underlying h1,sizeOf,typeInfo,h2,Builtin.lenOf,Builtin.firstCells]
 ·simp [Builtin.append_,run_underlying h1,sizeOf,typeInfo,h2,Builtin.lenOf,Builtin.firstCells,hnc,storeCells]
theorem append_core {base:Nat} {w0:W0} {st:St} {M:Wd} {a:Act} (hs:Sim base w0 st M a) {t E size bytes b n m cap:Nat} (I:SlT P t E size bytes) {xs ys:List CV} {v:Value} {ad:Option Addr} {cs:List Value} {ty:TypeId} (hH:st.H b=some (.vec E size xs)) (hm:M.m b=.row v) (hn:xs.length=n * size)
  (c1:cs.length=m * size) (c2:ys.length=m * size) (c3:ad=none→m=0) (c4:∀ a0,ad=some a0→∀ j u,cs[j]?=some u→M.w.cell? (a0.add j)=some u) (c5:∀ u∈cs,u.oneCell'=true) (c6:∀ (i:Nat) (z:CV) (v:Value),ys[i]?=some z→cs[i]?=some v→RC M.F M.w z v)
  (hb1:n+m≤maxLen) (hb2:(n+m) * bytes≤140737488355328) :
  ∃ v' w' M',(Builtin.append_ #[t,t] ty #[v,.slice ad m cap]).run P M.w=.ok v' w'∧M'.w=w'∧Sim base w0 (st.set b (.vec E size (xs++ys))) M' a∧Ext M M'∧RA M' (.vec b (n+m)) v':=by
 have hM:M.H b=some (.vec E size xs):=by rw [hs.H];exact hH
 obtain ⟨v2,n',us,e1,e2,e3,e4,e5,e6⟩:=hs.heap.vec b E size xs hM
 rw [hm] at e1;cases e1
 have hnn:n=n':=Nat.eq_of_mul_eq_mul_right e3 (by rw [← hn,e2])
 subst hnn
 obtain ⟨i,z,f1,f2,f3,f4,f5,f6⟩:=I.out
 have hrun:∃ v' w',(Builtin.append_ #[t,t] ty #[v,.slice ad m cap]).run P M.w=.ok v' w'∧w'.ownsRow base E size v' (n+m) (us++cs)∧M.w.grownBy w' v.ownBlock∧(v'.ownBlock=v.ownBlock∨v'.ownBlock=some M.w.heap.size)∧(m=0→v'=v):=by
  cases ad with
  | none =>
   have h0:=c3 rfl
   subst h0
   have:cs=[]:=List.eq_nil_of_length_eq_zero (by simpa using c1)
   subst this
   exact ⟨v,M.w,run_append_nil0 I M.w base ty v n us e4 cap,by simpa using e4,World.grownBy.refl M.w _,.inl rfl,fun _=>rfl⟩
  | some a0 =>
   obtain ⟨v',w',g1,g2,g3,g4,g5⟩:=run_append_own_at (P:=P) M.w base t ty E i z size bytes f1 f2 f3 f4 f5 f6 e3 v n us e4 a0 m cap cs c1 (c4 a0 rfl) c5 hb1 hb2 hs.base
   by_cases hm0:m=0
   ·subst hm0
    have:cs=[]:=List.eq_nil_of_length_eq_zero (by simpa using c1)
    subst this
    have hsame:(Builtin.append_ #[t,t] ty #[v,.slice (some a0) 0 cap]).run P M.w=.ok v M.w:=by
     rcases e4.2 with ⟨rfl,h0⟩|⟨g,cap',cur,rfl,hg,hh,hnc,_⟩
     ·simp [Builtin.append_,run_underlying f1,sizeOf,typeInfo,f2,Builtin.lenOf,Builtin.firstCells,loadCells,loadCellsFrom]
     ·simp [Builtin.append_,run_underlying f1,sizeOf,typeInfo,f2,Builtin.lenOf,Builtin.firstCells,hnc,storeCells,loadCells,loadCellsFrom]
    exact ⟨v,M.w,hsame,by simpa using e4,World.grownBy.refl M.w _,.inl rfl,fun _=>rfl⟩
   ·exact ⟨v',w',g1,g2,g3,g5,fun h=>absurd h hm0⟩
 obtain ⟨v',w',g1,g2,g3,g4,g5⟩:=hrun
 have hblk:∀ k,v.ownBlock=some k→base≤k∧k < M.w.heap.size:=fun k hk=>World.ownsRow.lt e4 k hk
 obtain ⟨h1,h2⟩:=hs.change (b:=b) (x:=.vec E size (xs++ys)) (c:=.row v') (w':=w') (by rw [hM];simp) (fun k hk hne=>g3.block k hk (fun he=>hne (by rw [hm];exact he.symm))) g3.size g3.os g3.tape g3.output (fun k hk=>by rw [hm] at hk;exact (hblk k hk).1)
  (fun k hk=>by
   rcases g4 with g4|g4
   ·left;rw [hm];exact g4.symm.trans hk
   ·right;have:some M.w.heap.size=some k:=g4.symm.trans hk;simp at this;omega)
  (fun k hk=>by rw [hm] at hk;exact e6 k hk) (fun g hg=>by rw [hm] at hg;cases hg)
  (fun E' size' l' h=>by
   simp only [AB.vec.injEq] at h
   obtain ⟨rfl,rfl,rfl⟩:=h
   refine ⟨xs,hM,by simp,fun hl=>?_⟩
   have hm0:m=0:=by
    have:ys.length=0:=by simpa using hl
    rw [c2] at this
    rcases Nat.mul_eq_zero.1 this with h|h<;>omega
   rw [hm,g5 hm0])
  (fun M' _ _ _ t' l' h=>by cases h)
  (fun E' size' l' h=>by
   simp only [AB.vec.injEq] at h
   obtain ⟨rfl,rfl,rfl⟩:=h
   refine ⟨v',n+m,us++cs,rfl,by rw [List.length_append,hn,c2,Nat.add_mul],e3,g2,fun i y u hy hu=>?_⟩
   have hF:∀ k,M.F k→M.F k∧w'.heap[k]?=M.w.heap[k]?:=fun k hk=>⟨hk,g3.block k (hs.heap.frz k hk) (fun he=>e6 k he.symm hk)⟩
   have hul:us.length=xs.length:=by rw [e4.1,hn]
   rcases Nat.lt_or_ge i xs.length with hi|hi
   ·rw [List.getElem?_append_left hi] at hy
    rw [List.getElem?_append_left (by omega)] at hu
    exact (e5 i y u hy hu).mono hF
   ·rw [List.getElem?_append_right hi] at hy
    rw [List.getElem?_append_right (by omega),hul] at hu
    exact (c6 _ y u hy hu).mono hF)
 refine ⟨v',w',_,g1,rfl,h1,h2,.vec (by show b < M.nx;exact hs.heap.lt b (by rw [hM];simp)) ?_ (fun E' size' l' hl=>?_)⟩
 ·rcases g2.2 with ⟨rfl,_⟩|⟨g,cap',cur,rfl,_⟩<;>rfl
 ·have hl':some (AB.vec E size (xs++ys))=some (.vec E' size' l'):=by
   have:(st.set b (.vec E size (xs++ys))).H b=some (.vec E' size' l'):=hl
   rwa [H_set,if_pos rfl] at this
  simp only [Option.some.injEq,AB.vec.injEq] at hl'
  obtain ⟨rfl,rfl,rfl⟩:=hl'
  refine ⟨by rw [List.length_append,hn,c2,Nat.add_mul];exact Nat.le_refl _,fun _=>by simp [Wd.set]⟩
theorem Sim.newNil {base:Nat} {w0:W0} {st:St} {M:Wd} {a:Act} (hs:Sim base w0 st M a) (E size:Nat) (hpos:0 < size) :
  ∃ M',M'.w=M.w∧M'.m M.nx=.row (.slice none 0 0)∧Sim base w0 (st.new (.vec E size [])) M' a∧Ext M M':=by
 let M':Wd:={ m:=fun b=>if b=M.nx then .row (.slice none 0 0) else M.m b,H:=(st.new (.vec E size [])).H,nx:=M.nx+1,F:=M.F,w:=M.w,fp:=M.fp }
 have hH:∀ b,M'.H b=if M.nx=b then some (.vec E size []) else M.H b:=fun b=>by
  show (st.new _).H b=_
  rw [fq,hs.nx,hs.H]
 have hm:M'.m M.nx=.row (.slice none 0 0):=by simp [M']
 have hm':∀ b,b≠M.nx→M'.m b=M.m b:=fun b hb=>by simp [M',hb]
 have hext:Ext M M':=by
  refine ⟨fun b g hb=>?_,fun b E' size' l' hb hl=>?_,by simp [M'],fun b hb=>⟨hb,rfl⟩⟩
  ·rw [hm' b (fun he=>hs.heap.fresh b (by omega) g hb)];exact hb
  ·rw [hH,if_neg (by omega)] at hl
   exact ⟨l',hl,Nat.le_refl _,fun _=>hm' b (by omega)⟩
 refine ⟨M',rfl,hm,⟨rfl,by show M.nx+1=st.nx+1;rw [hs.nx],hs.n,fun i y hy=>?_,fun g xs hg=>(hs.gl g xs hg).mono hext,⟨?_,?_,?_,?_,?_,hs.heap.frz,?_⟩,hs.below,hs.base,hs.defs,hs.old⟩,hext⟩
 ·obtain ⟨v,h1,h2⟩:=hs.env i y hy
  exact ⟨v,h1,h2.mono hext⟩
 ·intro b t l hl
  rw [hH] at hl
  by_cases hb:M.nx=b
  ·rw [if_pos hb] at hl;cases hl
  ·rw [if_neg hb] at hl
   obtain ⟨g,arr,e1,e2,e3,e4,e5,e6⟩:=hs.heap.cells b t l hl
   exact ⟨g,arr,by rw [hm' b (Ne.symm hb)];exact e1,e2,e3,e4,e5,fun i y u h1 h2=>(e6 i y u h1 h2).mono hext⟩
 ·intro b E' size' l hl
  rw [hH] at hl
  by_cases hb:M.nx=b
  ·subst hb
   rw [if_pos rfl] at hl
   simp only [Option.some.injEq,AB.vec.injEq] at hl
   obtain ⟨rfl,rfl,rfl⟩:=hl
   exact ⟨_,0,[],hm,by simp,hpos,⟨by simp,.inl ⟨rfl,rfl⟩⟩,fun i y u h=>by simp at h,fun g hg=>by simp [Value.ownBlock] at hg⟩
  ·rw [if_neg hb] at hl
   obtain ⟨v,n,cs,e1,e2,e3,e4,e5,e6⟩:=hs.heap.vec b E' size' l hl
   exact ⟨v,n,cs,by rw [hm' b (Ne.symm hb)];exact e1,e2,e3,e4,e5,e6⟩
 ·intro b b' g hbb hb hb' hg hg'
  rw [hH] at hb hb'
  by_cases h1:b=M.nx
  ·subst h1;rw [hm] at hg;simp [Conc.block,Value.ownBlock] at hg
  ·by_cases h2:b'=M.nx
   ·subst h2;rw [hm] at hg';simp [Conc.block,Value.ownBlock] at hg'
   ·rw [if_neg (Ne.symm h1)] at hb
    rw [if_neg (Ne.symm h2)] at hb'
    rw [hm' b h1] at hg
    rw [hm' b' h2] at hg'
    exact hs.heap.sep b b' g hbb hb hb' hg hg'
 ·intro b hb
  rw [hH] at hb
  show b < M.nx+1
  by_cases h1:M.nx=b
  ·omega
  ·rw [if_neg h1] at hb
   have:=hs.heap.lt b hb;omega
 ·intro b hb g
  have hb:M.nx+1≤b:=hb
  rw [hm' b (by omega)]
  exact hs.heap.fresh b (by omega) g
 ·intro b p hp
  rw [hH] at hp
  by_cases h1:M.nx=b
  ·rw [if_pos h1] at hp;cases hp
  rw [if_neg h1] at hp
  obtain ⟨g,e1,e2,e3,e4,e5⟩:=hs.heap.obj b p hp
  refine ⟨g,by rw [hm' b (Ne.symm h1)];exact e1,e2,e3,e4,fun b' k hbb hk=>⟨fun hb'=>?_,fun p' hp'=>?_⟩⟩
  ·by_cases h2:M.nx=b'
   ·subst h2;rw [hm];simp [Conc.block,Value.ownBlock]
   ·rw [hH,if_neg h2] at hb'
    rw [hm' b' (Ne.symm h2)]
    exact (e5 b' k hbb hk).1 hb'
  ·rw [hH] at hp'
   by_cases h2:M.nx=b'
   ·rw [if_pos h2] at hp';cases hp'
   ·rw [if_neg h2] at hp'
    exact (e5 b' k hbb hk).2 p' hp'
theorem Sim.congr {base:Nat} {w0:W0} {s t:St} {M:Wd} {a:Act} (hs:Sim base w0 s M a) (hH:s.H=t.H) (hn:s.n=t.n) (hx:s.nx=t.nx) (hg:s.gl=t.gl) (he:s.env=t.env):Sim base w0 t M a :=
 ⟨hs.H.trans hH,hs.nx.trans hx,hs.n.trans hn,fun i x h=>hs.env i x (by rw [he];exact h),fun g xs h=>hs.gl g xs (by rw [hg];exact h),hs.heap,hs.below,hs.base,hs.defs,hs.old⟩
end
section
variable {P:Program} {ops:Array Oper} {Q:Exit→St→Prop} {rest:List Oper} {st:St} {d:Nat} {ty:TypeId} {pos:String} {af:Array Edge}
theorem ex_append {t:Nat} {a:Act} {w w':World} {s x:Operand} {dst:Option Tmp} {v v':Value} {ad:Option Addr} {m cap:Nat} (hs:a.eval s=v) (hx:a.eval x=.slice ad m cap) (h:(Builtin.append_ #[t,t] ty #[v,.slice ad m cap]).run P w=.ok v' w') :
  (execOp a.eval ⟨dst,.call ⟨.builtin .append,#[s,x],#[t,t]⟩,ty,pos,af,none⟩).run P w=.ok (.value v') w':=by
 simp only [execOp,resolve,List.map_toArray,List.map_cons,List.map_nil,hs,hx]
 simp [invoke,builtin,h]
theorem ao_append {s x:Operand} {t E size bytes b n m:Nat} [I:SlT P t E size bytes] {xs ys:List CV} (hs0:st.ev s=some (.vec b n)) (hH:st.H b=some (.vec E size xs)) (hn:xs.length=n * size) (hx:Src P st x size m ys) (hb1:n+m≤maxLen) (hb2:(n+m) * bytes≤140737488355328) (hd:Nat.blt d st.n=true)
  (h:aP P ops Q rest ((st.set b (.vec E size (xs++ys))).put d (.vec b (n+m)))):aP P ops Q (⟨some d,.call ⟨.builtin .append,#[s,x],#[t,t]⟩,ty,pos,af,none⟩::rest) st:=by
 intro base w0 M a hs
 obtain ⟨ad,cap,cs,c0,c1,c2,c3,c4,c5,c6⟩:=hx base w0 M a hs
 have hv:=hs.ev hs0
 generalize he:a.eval s=v at hv
 cases hv with
 | vec hb ho hh =>
  have hM:M.H b=some (.vec E size xs):=by rw [hs.H];exact hH
  obtain ⟨v',w',M',g1,g2,g3,g4,g5⟩:=append_core (P:=P) (ty:=ty) hs I hH ((hh E size xs hM).2 hn) hn c1 c2 c3 c4 c5 c6 hb1 hb2
  refine wl_value rfl (ex_append he c0 g1) ?_
  subst g2
  exact aM (fun e a w=>bN.ext g4) _ _ _ (h base w0 M' _ (g3.put hd g5))
end
end Go.Proofs.YtdndfncpglfdeaaGreatDoor.Ev

namespace Go.Proofs.YtdndfncpglfdeaaGreatDoor.Ev
set_option linter.unusedVariables false
set_option linter.unusedSimpArgs false
open Go.RowKit
theorem flat_one {α:Type} {enc:α→List CV} {size:Nat} (J:EncL enc size) (l:List α):(l.flatMap enc).all CV.cellB=true:=by
 rw [List.all_flatMap,List.all_eq_true];exact fun x _=>J.one x
section
variable {P:Program} {ops:Array Oper} {Q:Exit→St→Prop} {rest:List Oper} {st:St} {d:Nat} {ty:TypeId} {pos:String} {af:Array Edge}
theorem ao_push {α:Type} {enc:α→List CV} {s x:Operand} {t E E2 size bytes b b2 n:Nat} [I:SlT P t E size bytes] {l:List α} {ys:List CV} (x0:α) (hs0:st.ev s=some (.vec b n)) (hH:st.H b=some (.vec E size (l.flatMap enc))) (J:EncL enc size) (hn:l.length=n) (hx:st.ev x=some (.vec b2 1)) (hH2:st.H b2=some (.vec E2 size ys)) (hy:ys=enc x0) (hb1:n < 1000000000000) (hb2:(n+1) * bytes≤140737488355328) (hd:Nat.blt d st.n=true)
  (h:aP P ops Q rest ((st.set b (.vec E size ((l++[x0]).flatMap enc))).put d (.vec b (n+1)))):aP P ops Q (⟨some d,.call ⟨.builtin .append,#[s,x],#[t,t]⟩,ty,pos,af,none⟩::rest) st:=by
 subst hy
 have e:(l++[x0]).flatMap enc=l.flatMap enc++enc x0:=by simp
 rw [e] at h
 have hb1:n+1≤maxLen:=by unfold maxLen;omega
 exact ao_append hs0 hH (by rw [av J.len,hn]) (src_vec hx hH2 (by rw [J.len];omega) (J.one x0)) hb1 hb2 hd h
theorem ao_appendl {α:Type} {enc:α→List CV} {s x:Operand} {t E size bytes b n:Nat} [I:SlT P t E size bytes] {l l2:List α} (hs0:st.ev s=some (.vec b n)) (hH:st.H b=some (.vec E size (l.flatMap enc))) (J:EncL enc size) (hn:l.length=n) (hx:st.ev x=some (.c (.lst size (l2.flatMap enc)))) (hb1:n+l2.length < 1000000000000) (hb2:(n+l2.length) * bytes≤140737488355328) (hd:Nat.blt d st.n=true)
  (h:aP P ops Q rest ((st.set b (.vec E size ((l++l2).flatMap enc))).put d (.vec b (n+l2.length)))):aP P ops Q (⟨some d,.call ⟨.builtin .append,#[s,x],#[t,t]⟩,ty,pos,af,none⟩::rest) st:=by
 have e:(l++l2).flatMap enc=l.flatMap enc++l2.flatMap enc:=by simp
 rw [e] at h
 exact ao_append hs0 hH (by rw [av J.len,hn]) (src_lst hx J.pos (av J.len l2) (flat_one J l2)) (by unfold maxLen;omega) hb2 hd h
def lits:List AV→Option (List CV)
 | []=>some []
 | y::l=>match cvL y,lits l with|some zs,some r=>some (zs++r)|_,_=>none
def litB (size:Nat):List AV→Bool
 | []=>true
 | y::l=>(match cvL y with|some zs=>Nat.beq zs.length size|none=>false) && litB size l
theorem lits_get {M:Wd} {size:Nat} (hpos:0 < size):∀ {ys:List AV} {zs:List CV} {vs:List Value},lits ys=some zs→litB size ys=true→ys.length=vs.length→(∀ (i:Nat) (y:AV) (v:Value),ys[i]?=some y→vs[i]?=some v→RA M y v) →
  zs.length=vs.length * size∧(vs.flatMap fun v=>v.cells.toList).length=vs.length * size∧(∀ v∈vs,v.cells.size=size)∧∀ (i:Nat) (z:CV) (u:Value),zs[i]?=some z→(vs.flatMap fun v=>v.cells.toList)[i]?=some u→RC M.F M.w z u
 | [],zs,vs,h,_,hl,_=>by
  simp only [lits,Option.some.injEq] at h;subst h
  have:vs=[]:=List.eq_nil_of_length_eq_zero (by simpa using hl.symm)
  subst this
  exact ⟨by simp,by simp,by simp,fun i z u h=>by simp at h⟩
 | y::ys,zs,vs,h,hb,hl,hr=>by
  match vs,hl with
  | v::vs,hl =>
   simp only [lits] at h
   simp only [litB,Bool.and_eq_true] at hb
   obtain ⟨b1,b2⟩:=hb
   cases hc:cvL y with
   | none=>rw [hc] at h;cases h
   | some ws =>
    rw [hc] at h b1
    dsimp only at b1
    have b1:=cu b1
    cases hr2:lits ys with
    | none=>rw [hr2] at h;cases h
    | some r =>
     rw [hr2] at h
     simp only [Option.some.injEq] at h;subst h
     obtain ⟨e1,e2,e3⟩:=cvL_ra hc (hr 0 y v rfl rfl)
     obtain ⟨f1,f2,f3,f4⟩:=lits_get hpos hr2 b2 (by simpa using hl) (fun i y' v' h1 h2=>hr (i+1) y' v' (by simpa using h1) (by simpa using h2))
     have hvl:v.cells.toList.length=size:=by simp;omega
     refine ⟨by rw [List.length_append,f1,List.length_cons,Nat.add_mul];omega,by rw [List.flatMap_cons,List.length_append,f2,hvl,List.length_cons,Nat.add_mul];omega,fun u hu=>?_,fun i z u hz hu=>?_⟩
     ·rcases List.mem_cons.1 hu with rfl|hu
      ·simpa using hvl
      ·exact f3 u hu
     ·rw [List.flatMap_cons] at hu
      rcases Nat.lt_or_ge i size with hi|hi
      ·rw [List.getElem?_append_left (by omega)] at hz
       rw [List.getElem?_append_left (by omega)] at hu
       exact e3 i z u hz (by simpa using hu)
      ·rw [List.getElem?_append_right (by omega),b1] at hz
       rw [List.getElem?_append_right (by omega),hvl] at hu
       exact f4 _ z u hz hu
theorem ao_lit {t E size bytes len:Nat} [I:SlT P t E size bytes] {parts:List (Nat×Operand)} {ps:List (Nat×AV)} {zs:List CV} (hp:evp st parts=some ps) (hi:ps.map (·.1)=List.range len) (hz:lits (ps.map (·.2))=some zs) (hb:litB size (ps.map (·.2))=true) (hl:Nat.ble 1 len=true) (hs2:Nat.ble (len * size) 100000=true) (hd:Nat.blt d st.n=true)
  (h:aP P ops Q rest ((st.new (.vec E size zs)).put d (.vec st.nx len))):aP P ops Q (⟨some d,.buildSlice t len parts.toArray,ty,pos,af,none⟩::rest) st:=by
 refine ao_new rfl rfl hd (fun base w0 M a hs=>?_) h
 obtain ⟨i,z,f1,f2,f3,f4,f5,f6⟩:=I.out
 obtain ⟨e1,e2⟩:=evp_get hp
 have hl:=Nat.le_of_ble_eq_true hl
 have hs2:=Nat.le_of_ble_eq_true hs2
 have hplen:ps.length=len:=by
  have:=congrArg List.length hi
  simpa using this
 let vs:List Value:=parts.map fun q=>a.eval q.2
 have hvl:vs.length=len:=by show (parts.map _).length=_;simp;omega
 have hra:∀ (k:Nat) (y:AV) (v:Value),(ps.map (·.2))[k]?=some y→vs[k]?=some v→RA M y v:=fun k y v hy hv=>by
  obtain ⟨p,g1,rfl⟩:∃ p,ps[k]?=some p∧p.2=y:=by simpa using hy
  obtain ⟨q,g2,rfl⟩:∃ q,parts[k]?=some q∧a.eval q.2=v:=by simpa [vs] using hv
  exact hs.ev (e2 k p q g1 g2).2
 obtain ⟨c1,c2,c3,c4⟩:=lits_get I.pos hz hb (by simp;omega) hra
 have hparts:(parts.map fun q=>(q.1,a.eval q.2))=(vs.zipIdx 0).map fun x=>(x.2,x.1):=by
  apply List.ext_getElem?
  intro k
  simp only [List.getElem?_map,List.getElem?_zipIdx,vs]
  cases hk:parts[k]? with
  | none=>simp
  | some q =>
   have hk':k < parts.length:=(List.getElem?_eq_some_iff.1 hk).1
   obtain ⟨p,hpk⟩:∃ p,ps[k]?=some p:=⟨_,List.getElem?_eq_getElem (by omega)⟩
   have h1:=(e2 k p q hpk hk).1
   have h2:(ps.map (·.1))[k]?=some p.1:=by simp [hpk]
   rw [hi] at h2
   have h3:k=p.1:=by
    have:k < len:=by omega
    simpa [this] using h2
   simp [← h1,← h3]
 have hfill:=Great.fill_whole I.pos vs ((Array.range (len * size)).map (z.cells[· % z.cells.size]!)) c3 (by simp [hvl])
 have hne:len * size≠0:=by
  have:=I.pos
  exact Nat.mul_ne_zero (by omega) (by omega)
 refine ⟨.slice (some ⟨M.w.heap.size,0,none⟩) len len,.row (.slice (some ⟨M.w.heap.size,0,none⟩) len len),(vs.flatMap fun v=>v.cells.toList).toArray,E,?_,hs.newB (fun g hg=>by simpa [Conc.block,Value.ownBlock] using hg.symm) (fun t' l' h'=>by cases h') (fun E' size' l' h'=>?_),.vec (by simp [Wd.new,hs.nx]) rfl (fun E' size' l' hl'=>?_)⟩
 ·simp only [execOp]
  rw [Sem.run_bind,run_buildSlice (P:=P) M.w t E len _ _ i z f1 f2 f3 (by rw [f4];omega) (by rw [f4];exact hne) (by rw [f4,show (Array.map (fun x:Nat×Operand=>(x.fst,a.eval x.snd)) parts.toArray).toList=parts.map fun q=>(q.1,a.eval q.2) from by simp,hparts];exact hfill)]
  rfl
 ·simp only [AB.vec.injEq] at h'
  obtain ⟨rfl,rfl,rfl⟩:=h'
  refine ⟨len,len,rfl,rfl,I.pos,by rw [c1,hvl],Nat.le_refl _,by unfold maxLen;have:=I.pos;have:len * 1≤len * size:=Nat.mul_le_mul_left _ this;omega,by simp [c2,hvl],fun k y u hy hu=>c4 k y u hy (by simpa using hu)⟩
 ·have hl2:some (AB.vec E size zs)=some (.vec E' size' l'):=by
   have:(st.new (.vec E size zs)).H st.nx=some (.vec E' size' l'):=hl'
   rwa [fq,if_pos rfl] at this
  simp only [Option.some.injEq,AB.vec.injEq] at hl2
  obtain ⟨rfl,rfl,rfl⟩:=hl2
  exact ⟨by rw [c1,hvl];exact Nat.le_refl _,fun _=>by simp [Wd.new,hs.nx]⟩
theorem ao_lit0 {t E size bytes:Nat} [I:SlT P t E size bytes] (hd:Nat.blt d st.n=true) (h:aP P ops Q rest ((st.new (.vec E size [])).put d (.vec st.nx 0))):aP P ops Q (⟨some d,.buildSlice t 0 #[],ty,pos,af,none⟩::rest) st:=by
 refine ao_new rfl rfl hd (fun base w0 M a hs=>?_) h
 obtain ⟨i,z,f1,f2,f3,f4,f5,f6⟩:=I.out
 refine ⟨.slice (some ⟨M.w.heap.size,0,none⟩) 0 0,.row (.slice (some ⟨M.w.heap.size,0,none⟩) 0 0),#[],E,?_,hs.newB (fun g hg=>by simpa [Conc.block,Value.ownBlock] using hg.symm) (fun t' l' h'=>by cases h') (fun E' size' l' h'=>?_),.vec (by simp [Wd.new,hs.nx]) rfl (fun E' size' l' hl'=>?_)⟩
 ·simp only [execOp]
  simp [Instr.buildSlice,run_underlying f1,sizeOf,typeInfo,f2,f4,Instr.fill,newRow]
  congr 1;simp [Array.range_zero']
 ·simp only [AB.vec.injEq] at h'
  obtain ⟨rfl,rfl,rfl⟩:=h'
  exact ⟨0,0,rfl,rfl,I.pos,by simp,Nat.le_refl _,Nat.zero_le _,by simp,fun k y u hy=>by simp at hy⟩
 ·have hl2:some (AB.vec E size [])=some (.vec E' size' l'):=by
   have:(st.new (.vec E size [])).H st.nx=some (.vec E' size' l'):=hl'
   rwa [fq,if_pos rfl] at this
  simp only [Option.some.injEq,AB.vec.injEq] at hl2
  obtain ⟨rfl,rfl,rfl⟩:=hl2
  exact ⟨by simp,fun _=>by simp [Wd.new,hs.nx]⟩
theorem ao_make {α:Type} {enc:α→List CV} {t E size bytes:Nat} {zs:List Value} [I:SlT P t E size bytes] [Z:ZeroT P E zs] {x y:Operand} {k1 k2:IntKind} {i1 i2:Int} (z0:α) (n:Nat) (J:EncL enc size) (hz:enc z0=zs.map .v) (hx:st.ev x=some (.c (.v (.int k1 i1)))) (hy:st.ev y=some (.c (.v (.int k2 i2)))) (h1:i1=(n:Int)) (h2:i2=(n:Int)) (hb1:n < 1000000000000) (hb2:bytes * n≤281474976710656) (hd:Nat.blt d st.n=true)
  (h:aP P ops Q rest ((st.new (.vec E size ((List.replicate n z0).flatMap enc))).put d (.vec st.nx n))):aP P ops Q (⟨some d,.makeSlice t x y,ty,pos,af,none⟩::rest) st:=by
 refine ao_new rfl rfl hd (fun base w0 M a hs=>?_) h
 obtain ⟨i,z,f1,f2,f3,f4,f5,f6⟩:=I.out
 obtain ⟨i',z',g1,g2,g3⟩:=Z.out
 rw [f2] at g1;cases g1
 rw [f3] at g2;cases g2
 subst h1;subst h2
 have hlen:=av J.len (List.replicate n z0)
 rw [List.length_replicate] at hlen
 have hrun:=run_make (P:=P) M.w t E i z f1 f2 f3 k1 k2 (n:Int) (n:Int) (by omega) (by omega) (by rw [f5,← Int.natCast_mul];omega) (by omega)
 simp only [Int.toNat_natCast,f4] at hrun
 have hget:∀ (k:Nat) (q:CV),((List.replicate n z0).flatMap enc)[k]?=some q→(madeCells z.cells (n * size))[k]?=some (match q with|.v u=>u|_=>undef)∧∃ u,q=.v u:=fun k q hq=>by
  have hk:k < n * size:=by rw [← hlen];exact (List.getElem?_eq_some_iff.1 hq).1
  have hpos:=I.pos
  have hq1:k / size < n:=(Nat.div_lt_iff_lt_mul hpos).2 hk
  have hr:k % size < size:=Nat.mod_lt _ hpos
  have e:k / size * size+k % size=k:=by rw [Nat.mul_comm];exact Nat.div_add_mod k size
  have hdrop:=drop_atj J (List.replicate n z0) (k / size) (k % size) (by rw [List.length_replicate];exact hq1) (Nat.le_of_lt hr)
  rw [e] at hdrop
  have h0:((List.replicate n z0).flatMap enc)[k]?=(enc z0)[k % size]?:=by
   have:(((List.replicate n z0).flatMap enc).drop k)[0]?=(enc z0)[k % size]?:=by
    rw [hdrop,List.getElem?_append_left (by rw [List.length_drop,J.len];omega),List.getElem?_drop,List.getElem_replicate,Nat.add_zero]
   rwa [List.getElem?_drop] at this
  rw [h0,hz,List.getElem?_map,← g3,Array.getElem?_toList] at hq
  have hzs:k % size < z.cells.size:=by rw [f6];exact hr
  simp only [Array.getElem?_eq_getElem hzs,Option.map_some,Option.some.injEq] at hq
  subst hq
  refine ⟨?_,_,rfl⟩
  simp [madeCells,hk,f6,hr]
 refine ⟨.slice (some ⟨M.w.heap.size,0,none⟩) n n,.row (.slice (some ⟨M.w.heap.size,0,none⟩) n n),madeCells z.cells (n * size),E,?_,hs.newB (fun g hg=>by simpa [Conc.block,Value.ownBlock] using hg.symm) (fun t' l' h'=>by cases h') (fun E' size' l' h'=>?_),.vec (by simp [Wd.new,hs.nx]) rfl (fun E' size' l' hl'=>?_)⟩
 ·simp only [execOp,(hs.ev hx).bool,(hs.ev hy).bool]
  rw [Sem.run_bind,hrun];rfl
 ·simp only [AB.vec.injEq] at h'
  obtain ⟨rfl,rfl,rfl⟩:=h'
  refine ⟨n,n,rfl,rfl,I.pos,hlen,Nat.le_refl _,by unfold maxLen;omega,size_madeCells _ _,fun k q u hq hu=>?_⟩
  obtain ⟨h1,v,rfl⟩:=hget k q hq
  rw [hu] at h1
  simp only [Option.some.injEq] at h1;subst h1
  exact .v _
 ·have hl2:some (AB.vec E size ((List.replicate n z0).flatMap enc))=some (.vec E' size' l'):=by
   have:(st.new (.vec E size ((List.replicate n z0).flatMap enc))).H st.nx=some (.vec E' size' l'):=hl'
   rwa [fq,if_pos rfl] at this
  simp only [Option.some.injEq,AB.vec.injEq] at hl2
  obtain ⟨rfl,rfl,rfl⟩:=hl2
  exact ⟨by rw [hlen];exact Nat.le_refl _,fun _=>by simp [Wd.new,hs.nx]⟩
end
end Go.Proofs.YtdndfncpglfdeaaGreatDoor.Ev

namespace Go.Proofs.YtdndfncpglfdeaaGreatDoor.Ev
set_option linter.unusedVariables false
set_option linter.unusedSimpArgs false
open Go.RowKit
theorem splice_mid {α:Type} (A e B ys:List α) (j:Nat) (hj:j+ys.length≤e.length):bA (A++(e++B)) ys (A.length+j)=A++(bA e ys j++B):=by
 unfold bA
 rw [List.take_append,List.take_of_length_le (by omega),Nat.add_sub_cancel_left,List.take_append_of_le_length (by omega),Nat.add_assoc,List.drop_append,List.drop_eq_nil_of_le (by omega),Nat.add_sub_cancel_left,List.drop_append_of_le_length (by omega)]
 simp only [List.append_assoc,List.nil_append]
theorem splice_flat {α:Type} {enc:α→List CV} {size:Nat} (J:EncL enc size) (l:List α) (k j:Nat) (hk:k < l.length) (ys:List CV) (hj:j+ys.length≤size) (x0:α) (hx:enc x0=bA (enc l[k]) ys j):bA (l.flatMap enc) ys (k * size+j)=(l.set k x0).flatMap enc:=by
 have hl:l.flatMap enc=(l.take k).flatMap enc++(enc l[k]++(l.drop (k+1)).flatMap enc):=by
  conv=>lhs;rw [← List.take_append_drop k l,List.drop_eq_getElem_cons hk]
  rw [List.flatMap_append,List.flatMap_cons]
 have hlen:((l.take k).flatMap enc).length=k * size:=by
  rw [av J.len,List.length_take,Nat.min_eq_left (Nat.le_of_lt hk)]
 rw [hl,← hlen,splice_mid _ _ _ _ j (by rw [J.len];exact hj),← hx,List.set_eq_take_append_cons_drop,if_pos hk,List.flatMap_append,List.flatMap_cons]
section
variable {P:Program} {ops:Array Oper} {Q:Exit→St→Prop} {rest:List Oper} {st:St} {d:Nat} {ty:TypeId} {pos:String} {af:Array Edge}
theorem store_v {base:Nat} {w0:W0} {M:Wd} {a:Act} {t m b n off g cap E size:Nat} {ag:Bool} {xs ys:List CV} {v:Value} (I:TyC P t ag m) (hs:Sim base w0 st M a) (hH:st.H b=some (.vec E size xs)) (hm:M.m b=.row (.slice (some ⟨g,0,none⟩) n cap)) (hn:xs.length=n * size)
  (hy:ys.length=m) (hl:off+m≤xs.length) (hsz:v.cells.size=m) (hone:∀ u∈v.cells.toList,u.oneCell'=true) (hr:∀ (i:Nat) (y:CV) (u:Value),ys[i]?=some y→v.cells[i]?=some u→RC M.F M.w y u) :
  ∃ w' M',(Instr.storeAt t (.pointer (some ⟨g,off,none⟩)) v).run P M.w=.ok () w'∧M'.w=w'∧Sim base w0 (st.set b (.vec E size (bA xs ys off))) M' a∧Ext M M':=by
 have hb:M.H b=some (.vec E size xs):=by rw [hs.H];exact hH
 obtain ⟨v',n',us,e1,e2,e3,e4,e5,e6⟩:=hs.heap.vec b E size xs hb
 rw [hm] at e1;cases e1
 have hnn:n=n':=Nat.eq_of_mul_eq_mul_right e3 (by rw [← hn,e2])
 subst hnn
 rcases e4.2 with ⟨h0,_⟩|⟨g',cap',cur,hv,f1,f2,f3,f4,f5,f6⟩
 ·cases h0
 simp only [Value.slice.injEq,Option.some.injEq,Addr.mk.injEq] at hv
 obtain ⟨⟨rfl,_,_⟩,_,rfl⟩:=hv
 have hcl:n * size≤cur.size:=by rw [f5];exact Nat.mul_le_mul_right _ f3
 have hspl:(bA xs ys off).length=xs.length:=by simp [bA];omega
 have hFk:∀ k,M.F k→M.F k∧(M.w.setRow g (cur.toList.take off++v.cells.toList++cur.toList.drop (off+m)).toArray).heap[k]?=M.w.heap[k]?:=fun k hk=>⟨hk,gj _ _ _ _ (fun he=>e6 g rfl (he ▸ hk))⟩
 refine ⟨_,M.set st b (.vec E size (bA xs ys off)) (.row (.slice (some ⟨g,0,none⟩) n cap)) (M.w.setRow g (cur.toList.take off++v.cells.toList++cur.toList.drop (off+m)).toArray),run_store_row I M.w g off E cur v f2 hsz (by omega) hone,rfl,?_⟩
 refine hs.change (by rw [hb];simp) (fun k hk hne=>gj _ _ _ _ (fun he=>hne (by rw [hm,he];rfl))) (by rw [setRow_size];exact Nat.le_refl _) rfl rfl rfl (fun k hk=>?_) (fun k hk=>Or.inl (by rw [hm];exact hk)) (fun k hk=>by rw [hm] at hk;exact e6 k hk) (fun g' hg'=>by rw [hm] at hg';cases hg') (fun E' size' l' h=>?_) (fun M' _ _ _ t' l' h=>by cases h) (fun E' size' l' h=>?_)
 ·rw [hm] at hk;simp only [Conc.block,Value.ownBlock,Option.some.injEq] at hk;omega
 ·simp only [AB.vec.injEq] at h
  obtain ⟨rfl,rfl,rfl⟩:=h
  exact ⟨xs,hb,by omega,fun _=>hm.symm⟩
 ·simp only [AB.vec.injEq] at h
  obtain ⟨rfl,rfl,rfl⟩:=h
  have hcells:v.cells.toList.length=m:=by simpa using hsz
  refine ⟨_,n,bA us v.cells.toList off,rfl,by omega,e3,⟨?_,Or.inr ⟨g,cap,_,rfl,f1,setRow_heap _ _ _ _ _ _ f2,f3,f4,?_,?_⟩⟩,fun i y u hy' hu=>?_⟩
  ·simp only [bA,List.length_append,List.length_take,List.length_drop,hcells]
   have:=e4.1;omega
  ·simp;omega
  ·rw [← f6]
   apply List.ext_getElem?
   intro i
   have hul:(cur.toList.take (n * size)).length=n * size:=by simp;omega
   rw [bA,dc _ _ off v.cells.toList.length i rfl (by rw [hul,hcells];omega),hcells]
   by_cases hi:i < n * size
   ·rw [List.getElem?_take_of_lt hi,dc _ _ off m i hcells (by simp;omega),List.getElem?_take_of_lt hi]
   ·rw [List.getElem?_eq_none (by simp;omega),if_neg (by omega),if_neg (by omega),List.getElem?_eq_none (by rw [hul];omega)]
  ·have hul:us.length=n * size:=e4.1
   rw [bA,dc xs ys off ys.length i rfl (by omega),hy] at hy'
   rw [bA,dc us v.cells.toList off v.cells.toList.length i rfl (by rw [hcells];omega),hcells] at hu
   split at hy'
   ·rename_i h1;rw [if_pos h1] at hu;exact (e5 i y u hy' hu).mono hFk
   ·rename_i h1;rw [if_neg h1] at hu
    split at hy'
    ·rename_i h2;rw [if_pos h2] at hu;exact (hr _ y u hy' (by simpa using hu)).mono hFk
    ·rename_i h2;rw [if_neg h2] at hu;exact (e5 i y u hy' hu).mono hFk
theorem ao_store_v {α:Type} {enc:α→List CV} {x z:Operand} {t m b n k E size:Nat} {ag:Bool} {l:List α} {y:AV} {ys:List CV} [I:TyC P t ag m] (x0:α) (hx:st.ev x=some (.vptr b n (k * size))) (hH:st.H b=some (.vec E size (l.flatMap enc))) (J:EncL enc size) (hn:l.length=n) (hk:k < l.length) (hz:st.ev z=some y) (hy:cvL y=some ys) (hm:ys.length=m) (hxe:enc x0=ys)
  (h:aP P ops Q rest (st.set b (.vec E size ((l.set k x0).flatMap enc)))):aP P ops Q (⟨none,.store t x z,ty,pos,af,none⟩::rest) st:=by
 have hfl:(l.flatMap enc).length=n * size:=by rw [av J.len,hn]
 have hys:ys.length=size:=by rw [← hxe,J.len]
 have hsp:=splice_flat J l k 0 hk ys (by omega) x0 (by
  rw [hxe];unfold bA
  rw [List.take_zero,List.nil_append,Nat.zero_add,List.drop_eq_nil_of_le (by rw [J.len];omega),List.append_nil])
 rw [Nat.add_zero] at hsp
 rw [← hsp] at h
 refine iZ (fun base w0 M a hs=>?_) h
 have hv:=hs.ev hx
 obtain ⟨c1,c2,c3⟩:=cvL_ra hy (hs.ev hz)
 generalize he:a.eval x=u at hv
 cases hv with
 | vptr hb ho hh =>
  obtain ⟨_,h2⟩:=hh E size _ (by rw [hs.H];exact hH)
  obtain ⟨g,cap,h3,rfl⟩:=h2 hfl
  have hmul:(k+1) * size≤n * size:=Nat.mul_le_mul_right _ (by omega)
  rw [Nat.add_mul] at hmul
  exact store_v I hs hH h3 hfl hm (by rw [hfl];omega) (by omega) c2 c3
def St.drop (s:St) (b:Nat):St:={ s with heap:=(b,none)::s.heap }
theorem H_drop (st:St) (b' b:Nat):(st.drop b').H b=if b'=b then none else st.H b:=by
 unfold St.H St.drop
 simp only [az]
 by_cases h:b'=b
 ·simp [h]
 ·simp [h]
theorem Sim.freeze {base:Nat} {w0:W0} {M:Wd} {a:Act} (hs:Sim base w0 st M a) {b E size:Nat} {l:List CV} (hH:st.H b=some (.vec E size l)) :
  ∃ M',M'.w=M.w∧Sim base w0 (st.drop b) M' a∧Ext M M'∧∀ n v,l.length=n * size→RA M (.vec b n) v→RC M'.F M'.w (.lst size l) v:=by
 have hb:M.H b=some (.vec E size l):=by rw [hs.H];exact hH
 obtain ⟨v,n,cs,e1,e2,e3,e4,e5,e6⟩:=hs.heap.vec b E size l hb
 let M':Wd:={ M with H:=(st.drop b).H,F:=fun k=>M.F k∨v.ownBlock=some k }
 have hH':∀ k,M'.H k=if b=k then none else M.H k:=fun k=>by
  show (st.drop b).H k=_
  rw [H_drop,hs.H]
 have hne:∀ k x,M'.H k=some x→b≠k∧M.H k=some x:=fun k x hx=>by
  rw [hH'] at hx
  by_cases h:b=k
  ·rw [if_pos h] at hx;cases hx
  ·rw [if_neg h] at hx;exact ⟨h,hx⟩
 have hext:Ext M M':=⟨fun _ _ h=>h,fun k E' size' l' _ hl=>⟨l',(hne k _ hl).2,Nat.le_refl _,fun _=>rfl⟩,Nat.le_refl _,fun k hk=>⟨Or.inl hk,rfl⟩⟩
 have hblk:(M.m b).block=v.ownBlock:=by rw [e1];rfl
 refine ⟨M',rfl,⟨rfl,hs.nx,hs.n,fun i y hy=>?_,fun g xs hg=>(hs.gl g xs hg).mono hext,⟨?_,?_,?_,?_,hs.heap.fresh,?_,?_⟩,hs.below,hs.base,hs.defs,?_⟩,hext,fun n' v' hl hv=>?_⟩
 ·obtain ⟨u,h1,h2⟩:=hs.env i y hy
  exact ⟨u,h1,h2.mono hext⟩
 ·intro k t l' hl
  obtain ⟨h1,h2⟩:=hne k _ hl
  obtain ⟨g,arr,g1,g2,g3,g4,g5,g6⟩:=hs.heap.cells k t l' h2
  refine ⟨g,arr,g1,g2,fun hf=>?_,g4,g5,fun i y u h3 h4=>(g6 i y u h3 h4).mono hext⟩
  rcases hf with hf|hf
  ·exact g3 hf
  ·exact hs.heap.sep k b g (Ne.symm h1) (by rw [h2];simp) (by rw [hb];simp) (by rw [g1];rfl) (by rw [hblk];exact hf)
 ·intro k E' size' l' hl
  obtain ⟨h1,h2⟩:=hne k _ hl
  obtain ⟨v',n',cs',g1,g2,g3,g4,g5,g6⟩:=hs.heap.vec k E' size' l' h2
  refine ⟨v',n',cs',g1,g2,g3,g4,fun i y u h3 h4=>(g5 i y u h3 h4).mono hext.F,fun g hg hf=>?_⟩
  rcases hf with hf|hf
  ·exact g6 g hg hf
  ·exact hs.heap.sep k b g (Ne.symm h1) (by rw [h2];simp) (by rw [hb];simp) (by rw [g1];exact hg) (by rw [hblk];exact hf)
 ·intro k k' g hkk hk hk'
  have h1:M.H k≠none:=fun h0=>hk (by rw [hH'];split<;>first|rfl|exact h0)
  have h2:M.H k'≠none:=fun h0=>hk' (by rw [hH'];split<;>first|rfl|exact h0)
  exact hs.heap.sep k k' g hkk h1 h2
 ·intro k hk
  exact hs.heap.lt k (fun h0=>hk (by rw [hH'];split<;>first|rfl|exact h0))
 ·intro k hk
  rcases hk with hk|hk
  ·exact hs.heap.frz k hk
  ·exact (World.ownsRow.lt e4 k hk).2
 ·intro k p hp
  obtain ⟨h1,h2⟩:=hne k _ hp
  obtain ⟨g,g1,g2,g3,g4,g5⟩:=hs.heap.obj k p h2
  refine ⟨g,g1,g2,p.stable _ _ _ _ _ _ g3 hext.F (fun _ _=>rfl),fun q hq=>⟨(g4 q hq).1,(g4 q hq).2.1,fun hf=>?_⟩,fun b' q hbb hq=>⟨fun hb'=>(g5 b' q hbb hq).1 (fun h0=>hb' (by rw [hH'];split<;>first|rfl|exact h0)),fun p' hp'=>(g5 b' q hbb hq).2 p' (hne b' _ hp').2⟩⟩
  rcases hf with hf|hf
  ·exact (g4 q hq).2.2 hf
  ·exact (g5 b q h1 hq).1 (by rw [hb];simp) (by rw [hblk];exact hf)
 ·intro k hk hlt
  rcases hk with hk|hk
  ·exact hs.old k hk hlt
  ·have:=(World.ownsRow.lt e4 k hk).1;omega
 ·refine il hs.heap (F':=M'.F) (fun k hk=>Or.inl hk) (H:=fun k=>if k=b then M.H k else none) (fun k E' s' l' hk=>?_) hv ?_
  ·by_cases h:k=b
   ·subst h;rw [if_pos rfl] at hk;exact ⟨hk,fun g hg=>Or.inr (by rw [← hblk];exact hg)⟩
   ·rw [if_neg h] at hk;cases hk
  ·exact bx (E:=E) (by rw [if_pos rfl];exact hb) hl
theorem ao_freeze {l:List Oper} (i:Nat) {b n E size:Nat} {xs:List CV} (hi:bf i st.env=some (.vec b n)) (hH:st.H b=some (.vec E size xs)) (hn:xs.length=n * size) (h:aP P ops Q l ((st.drop b).put i (.c (.lst size xs)))):aP P ops Q l st:=by
 intro base w0 M a hs
 obtain ⟨M',h1,h2,h3,h4⟩:=hs.freeze hH
 obtain ⟨v,g1,g2⟩:=hs.env i _ hi
 have hs':Sim base w0 ((st.drop b).put i (.c (.lst size xs))) M' a:=by
  refine ⟨h2.H,h2.nx,h2.n,fun j y hy=>?_,h2.gl,h2.heap,h2.below,h2.base,h2.defs,h2.old⟩
  simp only [St.put,az] at hy
  split at hy
  ·rename_i hj;subst hj;simp only [Option.some.injEq] at hy;subst hy;exact ⟨v,g1,.c (h4 n v hn g2)⟩
  ·exact h2.env j y hy
 rw [← h1]
 exact aM (fun e a w=>bN.ext h3) _ _ _ (h base w0 M' a hs')
def CV.plain:CV→Bool
 | .v _=>true
 | .agg xs=>plainL xs
 | .tup xs=>plainL xs
 | .lst _ _=>false
 | .e0=>true
 where plainL:List CV→Bool
 | []=>true
 | x::l=>CV.plain x && plainL l
theorem plainL_get:∀ {xs:List CV},CV.plain.plainL xs=true→∀ (i:Nat) (x:CV),xs[i]?=some x→x.plain=true
 | [],_,i,x,h=>by simp at h
 | y::l,hl,0,x,h=>by
  simp only [CV.plain.plainL,Bool.and_eq_true] at hl
  simp only [List.getElem?_cons_zero,Option.some.injEq] at h;subst h;exact hl.1
 | y::l,hl,i+1,x,h=>by
  simp only [CV.plain.plainL,Bool.and_eq_true] at hl
  exact plainL_get hl.2 i x (by simpa using h)
theorem RC.plain {F F':Nat→Prop} {w w':World} {x:CV} {u:Value} (h:RC F w x u):x.plain=true→RC F' w' x u:=by
 induction h with
 | v x=>exact fun _=>.v x
 | agg hl _ ih=>exact fun hp=>.agg hl (fun i x u hx hu=>ih i x u hx hu (plainL_get hp i x hx))
 | tup hl _ ih=>exact fun hp=>.tup hl (fun i x u hx hu=>ih i x u hx hu (plainL_get hp i x hx))
 | nil=>exact fun hp=>by cases hp
 | e0=>exact fun _=>.e0
 | lst _ _ _ _ _ _ _=>exact fun hp=>by cases hp
theorem ao_callv {f:FuncId} {args:List Operand} {tys:Array TypeId} {ys:List AV} {zs:List CV} {r:CV} (hcon:bm P st.gl f zs r) (hys:evs st args=some ys) (hz:cl.clL st.H ys zs) (hr:r.plain=true) (hd:Nat.blt d st.n=true)
  (h:aP P ops Q rest (st.put d (ofC r))):aP P ops Q (⟨some d,.call ⟨.value (.func f),args.toArray,tys⟩,ty,pos,af,none⟩::rest) st:=by
 intro base w0 M a hs
 obtain ⟨e1,e2⟩:=dN hys
 obtain ⟨e3,e4⟩:=gG hz
 have hFm:∀ b,M.F b→b < M.w.heap.size:=hs.heap.frz
 refine eS rfl (eQ hcon.1 a M.w) (R:=fun v w''=>Below M.w.heap.size M.w w''∧RC (M.after w'').F w'' r v) (Calls.mono (hcon.2 M.w (fun b=>b < M.w.heap.size) _ (fun b h=>h) (fun g xs hg=>?_) (by simp;omega) (fun i x u hx hu=>?_)) (fun e w'' ⟨v,he,hb,hrc⟩=>⟨v,he,hb,hrc.plain hr⟩)) (fun v w'' hR=>?_)
 ·have:=hs.gl g xs hg
  generalize hq:Value.pointer (some ⟨g,0,none⟩)=q at this ⊢
  cases this with
  | eptr cs hF hcell hr=>exact .eptr cs (hFm _ hF) hcell (fun i x hi=>(hr i x hi).mono (fun b hb=>⟨hFm b hb,rfl⟩))
 ·have hi:i < args.length:=by have:=(List.getElem?_eq_some_iff.1 hx).1;omega
  obtain ⟨y,hy⟩:∃ y,ys[i]?=some y:=⟨_,List.getElem?_eq_getElem (by omega)⟩
  have hev:=hs.ev (e2 i args[i] y (by simp [hi]) hy)
  have hu':a.eval args[i]=u:=by simpa [hi] using hu
  rw [hu'] at hev
  refine il hs.heap (F':=fun b=>b < M.w.heap.size) hFm (fun b E s l hb=>?_) hev (e4 i y x hy hx)
  rw [← hs.H] at hb
  refine ⟨hb,fun g hg=>fM hs.heap (by rw [hb];simp) hg⟩
 ·obtain ⟨hb,hrc⟩:=hR
  have:=h base w0 (M.after w'') _ ((hs.after hb).put hd (RA.ofC (M:=M.after w'') hrc))
  exact aM (fun e a w=>bN.ext (Ext.after hb hs.heap.frz)) _ _ _ this
class EqInts (P:Program) (t:Nat) (n:outParam Nat):Prop where
 h:∀ (w:World) (x y:Operand) (as bs:List Int),as.length=n→bs.length=n →
  (do eqGuard .eql t x y (.agg (as.map (Value.int .i64)).toArray) (.agg (bs.map (Value.int .i64)).toArray);binOp .eql t (.agg (as.map (Value.int .i64)).toArray) (.agg (bs.map (Value.int .i64)).toArray)).run P w=.ok (.bool (decide (as=bs))) w ∧
  (do eqGuard .neq t x y (.agg (as.map (Value.int .i64)).toArray) (.agg (bs.map (Value.int .i64)).toArray);binOp .neq t (.agg (as.map (Value.int .i64)).toArray) (.agg (bs.map (Value.int .i64)).toArray)).run P w=.ok (.bool (!decide (as=bs))) w
def ints:List AV→Option (List Int)
 | []=>some []
 | .c (.v (.int .i64 k))::l=>(ints l).map (k::·)
 | _::_=>none
theorem ints_val {M:Wd}:∀ {xs:List AV} {as:List Int} {vs:List Value},ints xs=some as→xs.length=vs.length→(∀ (i:Nat) (x:AV) (u:Value),xs[i]?=some x→vs[i]?=some u→RA M x u)→vs=as.map (Value.int .i64)
 | [],as,vs,h,hl,_=>by
  simp only [ints,Option.some.injEq] at h;subst h
  exact List.eq_nil_of_length_eq_zero (by simpa using hl.symm)
 | x::xs,as,vs,h,hl,hr=>by
  match vs,hl with
  | v::vs,hl =>
   unfold ints at h
   split at h
   ·rename_i heq;exact absurd heq (by simp)
   ·rename_i k l heq
    simp only [List.cons.injEq] at heq
    obtain ⟨rfl,rfl⟩:=heq
    simp only [Option.map_eq_some_iff] at h
    obtain ⟨as',h1,rfl⟩:=h
    have h2:=(hr 0 _ v rfl rfl).bool
    have h3:=ints_val h1 (by simpa using hl) (fun i x u hx hu=>hr (i+1) x u (by simpa using hx) (by simpa using hu))
    rw [h2,h3];rfl
   ·cases h
theorem ao_eqs {X:List Oper→St→Prop} [W:Walk P X] {x y:Operand} {t t2 n:Nat} {xs ys:List AV} {as bs:List Int} [I:EqInts P t n] (hx:st.ev x=some (.agg xs)) (hy:st.ev y=some (.agg ys)) (ha:ints xs=some as) (hb:ints ys=some bs) (hn:as.length=n) (hn2:bs.length=n) (hd:Nat.blt d st.n=true) (h:X rest (st.put d (.c (.v (.bool (decide (as=bs))))))):X (⟨some d,.binOp .eql t x y t2,ty,pos,af,none⟩::rest) st:=by
 refine aY rfl rfl hd (fun _ _ M a hs=>?_) h
 have h1:=hs.ev (by simp [Op.operands]) hx
 have h2:=hs.ev (by simp [Op.operands]) hy
 generalize he1:a.eval x=u1 at h1
 generalize he2:a.eval y=u2 at h2
 cases h1 with
 | agg l1 r1 =>
  cases h2 with
  | agg l2 r2 =>
   rename_i v1 v2
   have e1:v1.toList=_:=ints_val ha (by simpa using l1) (fun i x u hx hu=>r1 i x u hx (by simpa using hu))
   have e2:v2.toList=_:=ints_val hb (by simpa using l2) (fun i x u hx hu=>r2 i x u hx (by simpa using hu))
   have e1':v1=(as.map (Value.int .i64)).toArray:=by rw [← e1]
   have e2':v2=(bs.map (Value.int .i64)).toArray:=by rw [← e2]
   subst e1';subst e2'
   refine ⟨_,?_,.c (.v _)⟩
   simp only [execOp,he1,he2]
   rw [Sem.run_bind,(I.h M.w x y as bs hn hn2).1];rfl
theorem ao_neqs {X:List Oper→St→Prop} [W:Walk P X] {x y:Operand} {t t2 n:Nat} {xs ys:List AV} {as bs:List Int} [I:EqInts P t n] (hx:st.ev x=some (.agg xs)) (hy:st.ev y=some (.agg ys)) (ha:ints xs=some as) (hb:ints ys=some bs) (hn:as.length=n) (hn2:bs.length=n) (hd:Nat.blt d st.n=true) (h:X rest (st.put d (.c (.v (.bool (!decide (as=bs))))))):X (⟨some d,.binOp .neq t x y t2,ty,pos,af,none⟩::rest) st:=by
 refine aY rfl rfl hd (fun _ _ M a hs=>?_) h
 have h1:=hs.ev (by simp [Op.operands]) hx
 have h2:=hs.ev (by simp [Op.operands]) hy
 generalize he1:a.eval x=u1 at h1
 generalize he2:a.eval y=u2 at h2
 cases h1 with
 | agg l1 r1 =>
  cases h2 with
  | agg l2 r2 =>
   rename_i v1 v2
   have e1:v1.toList=_:=ints_val ha (by simpa using l1) (fun i x u hx hu=>r1 i x u hx (by simpa using hu))
   have e2:v2.toList=_:=ints_val hb (by simpa using l2) (fun i x u hx hu=>r2 i x u hx (by simpa using hu))
   have e1':v1=(as.map (Value.int .i64)).toArray:=by rw [← e1]
   have e2':v2=(bs.map (Value.int .i64)).toArray:=by rw [← e2]
   subst e1';subst e2'
   refine ⟨_,?_,.c (.v _)⟩
   simp only [execOp,he1,he2]
   rw [Sem.run_bind,(I.h M.w x y as bs hn hn2).2];rfl
end
end Go.Proofs.YtdndfncpglfdeaaGreatDoor.Ev

namespace Go.Proofs.YtdndfncpglfdeaaGreatDoor.Ev
set_option linter.unusedVariables false
set_option linter.unusedSimpArgs false
open Go.RowKit
def dl:Nat→List AV→List (Nat×AV)
 | _,[]=>[]
 | k,x::l=>(k,x)::dl (k+1) l
theorem eA:∀ (l:List AV) (k i:Nat) (y:AV),bf i (dl k l)=some y→k≤i∧l[i - k]?=some y
 | [],k,i,y,h=>by simp [dl,bf] at h
 | x::l,k,i,y,h=>by
  rw [dl,az] at h
  split at h
  ·rename_i hk;subst hk;simp only [Option.some.injEq] at h;exact ⟨Nat.le_refl _,by simp [h]⟩
  ·obtain ⟨h1,h2⟩:=eA l (k+1) i y h
   refine ⟨by omega,?_⟩
   rw [show i - k=(i - (k+1))+1 by omega]
   simpa using h2
section
variable {P:Program} {ops:Array Oper} {Q:Exit→St→Prop} {rest:List Oper} {st:St} {d:Nat} {ty:TypeId} {pos:String} {af:Array Edge}
def Back (t:Nat) (gl:List (Nat×List CV)) (K:AV→List (Nat×Option AB)→Nat→Prop):Exit→St→Prop
 | e,s=>(e=.normal∨e=.ret)∧s.gl=gl∧∃ y,bf t s.env=some y∧K y s.heap s.nx
theorem co {t:Nat} {n:Nat} {env:List (Nat×AV)} {heap:List (Nat×Option AB)} {nx:Nat} {gl:List (Nat×List CV)} {y:AV} {K:AV→List (Nat×Option AB)→Nat→Prop} (h:bf t env=some y) (hK:K y heap nx):Back t gl K .ret ⟨n,env,heap,nx,gl⟩:=⟨Or.inr rfl,rfl,y,h,hK⟩
theorem ao_in {f:FuncId} {fn:Func} {c:Code} {t:Nat} {args:List Operand} {tys:Array TypeId} {ys:List AV} (hf:P.funcs[f]?=some fn) (hb:fn.body=some c) (hr:fn.results=#[.tmp t]) (hcall:bB P f=true) (hys:evs st args=some ys) (hn:Nat.ble ys.length fn.ntmps=true) (hd:Nat.blt d st.n=true)
  (h:gf P c (Back t st.gl (fun y heap nx=>aP P ops Q rest ⟨st.n,(d,y)::st.env,heap,nx,st.gl⟩)) ⟨fn.ntmps,dl 0 ys,st.heap,st.nx,st.gl⟩):aP P ops Q (⟨some d,.call ⟨.value (.func f),args.toArray,tys⟩,ty,pos,af,none⟩::rest) st:=by
 intro base w0 M a hs
 obtain ⟨e1,e2⟩:=dN hys
 have hn:=Nat.le_of_ble_eq_true hn
 have hsim:Sim base w0 ⟨fn.ntmps,dl 0 ys,st.heap,st.nx,st.gl⟩ M { tmps:=(args.map a.eval).toArray++Array.replicate (fn.ntmps - (args.map a.eval).toArray.size) undef,defers:=[] }:=by
  refine ⟨hs.H,hs.nx,by simp;omega,fun i y hy=>?_,hs.gl,hs.heap,hs.below,hs.base,rfl,hs.old⟩
  obtain ⟨_,h1⟩:=eA ys 0 i y hy
  rw [Nat.sub_zero] at h1
  have hi:i < args.length:=by have:=(List.getElem?_eq_some_iff.1 h1).1;omega
  exact ⟨a.eval args[i],by simp [Array.getElem?_append,hi],hs.ev (e2 i args[i] y (by simp [hi]) h1)⟩
 refine eS rfl (eQ hcall a M.w) (R:=fun v w''=>wpList P ops (bN base w0 M Q) rest (a.put (some d) v) w'') (calls_of_wp hf hb ?_) (fun v w'' hR=>hR)
 refine Code.wp_mono ?_ (h base w0 M _ hsim)
 intro e a' w' ⟨M',s',h1,h2,h3,h4,h5,y,h6,h7⟩
 subst h1
 obtain ⟨v,g1,g2⟩:=h2.env t y h6
 have hres:(results fn a'.tmps).run P M'.w=.ok v M'.w:=by
  unfold results
  rw [hr]
  simp [Array.getD_eq_getD_getElem?,g1]
 have hd':=ba hd
 have hcaller:Sim base w0 ⟨st.n,(d,y)::st.env,s'.heap,s'.nx,st.gl⟩ M' (a.put (some d) v):=by
  refine ⟨h2.H,h2.nx,by show (a.tmps.setIfInBounds d v).size=_;rw [Array.size_setIfInBounds];exact hs.n,fun i z hz=>?_,fun g xs hg=>h2.gl g xs (by rw [h5];exact hg),h2.heap,h2.below,h2.base,by simpa [Act.put] using hs.defs,h2.old⟩
  rw [az] at hz
  by_cases hi:d=i
  ·subst hi
   rw [if_pos rfl] at hz
   simp only [Option.some.injEq] at hz;subst hz
   exact ⟨v,by simp [Act.put,hs.n,hd'],g2⟩
  ·rw [if_neg hi] at hz
   obtain ⟨u,q1,q2⟩:=hs.env i z hz
   exact ⟨u,by simp [Act.put,Array.getElem?_setIfInBounds_ne hi,q1],q2.mono h3⟩
 have hgoal:wpList P ops (bN base w0 M Q) rest (a.put (some d) v) M'.w:=aM (fun e a w=>bN.ext h3) _ _ _ (h7 base w0 M' _ hcaller)
 have:bodyPost P fn (fun e w''=>∃ v,e=.returned v∧wpList P ops (bN base w0 M Q) rest (a.put (some d) v) w'') e a' M'.w:=by
  rcases h4 with rfl|rfl
  ·exact ⟨h2.defs,v,hres,v,rfl,hgoal⟩
  ·exact ⟨h2.defs,v,hres,v,rfl,hgoal⟩
 exact this
structure Fewer (h:List (Nat×Option AB)) (nx:Nat) (h2 h':List (Nat×Option AB)):Prop where
 same:∀ i,i < nx→bf i h'=bf i h2
 none:∀ i,nx≤i→bf i h'=bf i h
 cells:∀ i t l,bf i h'=some (some (.cells t l))→bf i h=some (some (.cells t l))
theorem bo {c:Code} {n:Nat} {env:List (Nat×AV)} {heap:List (Nat×Option AB)} {nx:Nat} {gl:List (Nat×List CV)} (i E size:Nat) (hi:bf i env=some (.c (.v (.slice none 0 0)))) (hpos:Nat.blt 0 size=true) (h:gf P c Q ⟨n,(i,.vec nx 0)::env,(nx,some (.vec E size []))::heap,nx+1,gl⟩):gf P c Q ⟨n,env,heap,nx,gl⟩:=by
 intro base w0 M a hs
 obtain ⟨M',m1,m2,m3,m4⟩:=hs.newNil E size (ba hpos)
 obtain ⟨v,g1,g2⟩:=hs.env i _ hi
 have hv:=g2.bool
 subst hv
 have hs':Sim base w0 ⟨n,(i,.vec nx 0)::env,(nx,some (.vec E size []))::heap,nx+1,gl⟩ M' a:=by
  refine ⟨m3.H,m3.nx,m3.n,fun j y hy=>?_,m3.gl,m3.heap,m3.below,m3.base,m3.defs,m3.old⟩
  rw [az] at hy
  split at hy
  ·rename_i hj;subst hj;simp only [Option.some.injEq] at hy;subst hy
   refine ⟨_,g1,.vec (by rw [m3.nx];exact Nat.lt_succ_self _) rfl (fun E' s' l' hl=>?_)⟩
   have hl':some (AB.vec E size [])=some (.vec E' s' l'):=by
    have:(St.new ⟨n,env,heap,nx,gl⟩ (.vec E size [])).H nx=some (.vec E' s' l'):=by rw [← m3.H];exact hl
    rwa [fq,if_pos rfl] at this
   simp only [Option.some.injEq,AB.vec.injEq] at hl'
   obtain ⟨rfl,rfl,rfl⟩:=hl'
   exact ⟨by simp,fun _=>by rw [← show M.nx=nx from hs.nx];exact m2⟩
  ·exact m3.env j y hy
 rw [← m1]
 exact wp_mono (h base w0 M' a hs') fun e a w=>bN.ext m4
end
end Go.Proofs.YtdndfncpglfdeaaGreatDoor.Ev

namespace Go.Proofs.YtdndfncpglfdeaaGreatDoor.Ev
set_option linter.unusedVariables false
set_option linter.unusedSimpArgs false
open Go.RowKit
section
variable {P:Program} {X:List Oper→St→Prop} {rest:List Oper} {d:Nat} {ty:TypeId} {pos:String} {af:Array Edge} {st:St}
theorem ao_index_vf [W:Walk P X] {α:Type} {enc:α→List CV} {x i:Operand} {t E E2 size bytes b m:Nat} [I:SlT P t E size bytes] {l:List α} {kk:IntKind} {idx:Int} (k:Nat) (hx:st.ev x=some (.vec b m)) (hH:st.H b=some (.vec E2 size (l.flatMap enc))) (J:EncL enc size) (hn:l.length=m) (hi:st.ev i=some (.c (.v (.int kk idx)))) (hk:idx=(k:Int)) (hlt:k < m) (hd:Nat.blt d st.n=true)
  (h:X rest (st.put d (.vptr b m (k * size)))):X (⟨some d,.indexAddr t x i,ty,pos,af,none⟩::rest) st :=
 ao_index_v k hx hH (by rw [av J.len,hn]) hi hk hlt hd h
theorem ao_load_vf0 [W:Walk P X] {α:Type} {enc:α→List CV} {x:Operand} {t b m q k E size:Nat} {l:List α} {r:α} {y:CV} {ys:List CV} [I:TyC P t false q] (hx:st.ev x=some (.vptr b m (k * size))) (hH:st.H b=some (.vec E size (l.flatMap enc))) (J:EncL enc size) (hn:l.length=m) (hr:l[k]?=some r) (hy:enc r=y::ys) (hd:Nat.blt d st.n=true) (h:X rest (st.put d (.c y))):X (⟨some d,.load t x,ty,pos,af,none⟩::rest) st:=by
 obtain ⟨hk,rfl⟩:=List.getElem?_eq_some_iff.1 hr
 exact ao_load_v hx hH (by rw [av J.len,hn]) (by rw [drop_at J l k hk,hy];rfl) hd h
theorem ao_load_vfa0 [W:Walk P X] {α:Type} {enc:α→List CV} {x:Operand} {t b m q k E size:Nat} {l:List α} {r:α} {zs:List AV} [I:TyC P t true q] (hx:st.ev x=some (.vptr b m (k * size))) (hH:st.H b=some (.vec E size (l.flatMap enc))) (J:EncL enc size) (hn:l.length=m) (hr:l[k]?=some r) (hq:Nat.beq q size=true) (hz:(enc r).map .c=zs) (hd:Nat.blt d st.n=true) (h:X rest (st.put d (.agg zs))):X (⟨some d,.load t x,ty,pos,af,none⟩::rest) st:=by
 obtain ⟨hk,rfl⟩:=List.getElem?_eq_some_iff.1 hr
 subst hz
 exact ao_load_va (enc l[k]) hx hH (by rw [av J.len,hn]) (drop_at J l k hk) (by rw [J.len,cu hq]) hd h
theorem cell_new (w:World) (c:Array Value) (t:TypeId) (k:Nat):(w.alloc (.cells c t)).cell? ⟨w.heap.size,k,none⟩=c[k]?:=by
 have h:(w.alloc (.cells c t)).heap[w.heap.size]?=some (.cells c t):=alloc_new _ _
 unfold World.cell?
 dsimp only
 rw [h]
 rfl
theorem ao_litq [W:Walk P X] {t E size bytes len:Nat} [I:SlT P t E size bytes] {parts:List (Nat×Operand)} {ps:List (Nat×AV)} {zs:List CV} (hp:evp st parts=some ps) (hi:ps.map (·.1)=List.range len) (hz:lits (ps.map (·.2))=some zs) (hb:litB size (ps.map (·.2))=true) (hl:Nat.ble 1 len=true) (hs2:Nat.ble (len * size) 100000=true) (hd:Nat.blt d st.n=true)
  (h:X rest (st.put d (.c (.lst size zs)))):X (⟨some d,.buildSlice t len parts.toArray,ty,pos,af,none⟩::rest) st:=by
 refine W.step rfl rfl hd (fun base w0 M a hs K Q hK=>?_) h
 obtain ⟨i,z,f1,f2,f3,f4,f5,f6⟩:=I.out
 obtain ⟨e1,e2⟩:=evp_get hp
 have hl:=Nat.le_of_ble_eq_true hl
 have hs2:=Nat.le_of_ble_eq_true hs2
 have hplen:ps.length=len:=by
  have:=congrArg List.length hi
  simpa using this
 let vs:List Value:=parts.map fun q=>a.eval q.2
 have hvl:vs.length=len:=by show (parts.map _).length=_;simp;omega
 have hra:∀ (k:Nat) (y:AV) (v:Value),(ps.map (·.2))[k]?=some y→vs[k]?=some v→RA M y v:=fun k y v hy hv=>by
  obtain ⟨p,g1,rfl⟩:∃ p,ps[k]?=some p∧p.2=y:=by simpa using hy
  obtain ⟨q,g2,rfl⟩:∃ q,parts[k]?=some q∧a.eval q.2=v:=by simpa [vs] using hv
  exact hs.ev (by simp [Op.operands];exact ⟨q.1,List.mem_of_getElem? g2⟩) (e2 k p q g1 g2).2
 obtain ⟨c1,c2,c3,c4⟩:=lits_get I.pos hz hb (by simp;omega) hra
 have hparts:(parts.map fun q=>(q.1,a.eval q.2))=(vs.zipIdx 0).map fun x=>(x.2,x.1):=by
  apply List.ext_getElem?
  intro k
  simp only [List.getElem?_map,List.getElem?_zipIdx,vs]
  cases hk:parts[k]? with
  | none=>simp
  | some q =>
   have hk':k < parts.length:=(List.getElem?_eq_some_iff.1 hk).1
   obtain ⟨p,hpk⟩:∃ p,ps[k]?=some p:=⟨_,List.getElem?_eq_getElem (by omega)⟩
   have h1:=(e2 k p q hpk hk).1
   have h2:(ps.map (·.1))[k]?=some p.1:=by simp [hpk]
   rw [hi] at h2
   have h3:k=p.1:=by
    have:k < len:=by omega
    simpa [this] using h2
   simp [← h1,← h3]
 have hfill:=Great.fill_whole I.pos vs ((Array.range (len * size)).map (z.cells[· % z.cells.size]!)) c3 (by simp [hvl])
 have hne:len * size≠0:=by
  have:=I.pos
  exact Nat.mul_ne_zero (by omega) (by omega)
 have hrun:(execOp a.eval ⟨some d,.buildSlice t len parts.toArray,ty,pos,af,none⟩).run P M.w=.ok (.value (.slice (some ⟨M.w.heap.size,0,none⟩) len len)) (M.w.alloc (.cells (vs.flatMap fun v=>v.cells.toList).toArray E)):=by
  simp only [execOp]
  rw [Sem.run_bind,run_buildSlice (P:=P) M.w t E len _ _ i z f1 f2 f3 (by rw [f4];omega) (by rw [f4];exact hne) (by rw [f4,show (Array.map (fun x:Nat×Operand=>(x.fst,a.eval x.snd)) parts.toArray).toList=parts.map fun q=>(q.1,a.eval q.2) from by simp,hparts];exact hfill)]
  rfl
 have hb:Below M.w.heap.size M.w (M.w.alloc (.cells (vs.flatMap fun v=>v.cells.toList).toArray E)):=(Below.refl _ _).alloc (Nat.le_refl _) _
 unfold Oper.wp
 rw [hrun]
 have hext:=Ext.after hb hs.sim.heap.frz
 refine hK _ (M.after _) hext (fun s hs'=>hs'.after hb) (.c (.lst (fun k=>(vs.flatMap fun v=>v.cells.toList).getD k undef) (by rw [c1,hvl]) (Nat.le_refl _) (.inr ⟨Nat.le_refl _,by simp [World.alloc]⟩) (fun k x hk=>?_) (fun k x hk=>?_)))
 ·have hkl:k < (vs.flatMap fun v=>v.cells.toList).length:=by
   have:=(List.getElem?_eq_some_iff.1 hk).1
   omega
  show (M.w.alloc _).cell? _=_
  rw [cell_new,List.getD_eq_getElem?_getD,List.getElem?_eq_getElem hkl,Nat.zero_add]
  simp only [List.getElem?_toArray,List.getElem?_eq_getElem hkl,Option.getD_some]
 ·have hkl:k < (vs.flatMap fun v=>v.cells.toList).length:=by
   have:=(List.getElem?_eq_some_iff.1 hk).1
   omega
  have:=c4 k x _ hk (List.getElem?_eq_getElem hkl)
  rw [List.getD_eq_getElem?_getD,List.getElem?_eq_getElem hkl]
  exact this.mono hext.F
end
end Go.Proofs.YtdndfncpglfdeaaGreatDoor.Ev

namespace Go.Proofs.YtdndfncpglfdeaaGreatDoor.Ev
set_option linter.unusedVariables false
set_option linter.unusedSimpArgs false
open Go.RowKit
section
variable {P:Program} {ops:Array Oper}
def AOp (P:Program) (o:Oper) (d:Nat) (x:AB):Prop :=
 o.guard=none∧o.dst=some d∧∀ (st:St) base w0 M a,Sim base w0 st M a→∃ (u:Value) (c:Conc) (arr:Array Value) (t:TypeId),(execOp a.eval o).run P M.w=.ok (.value u) (M.w.alloc (.cells arr t))∧Sim base w0 (st.new x) (M.new st x c (.cells arr t)) a∧RA (M.new st x c (.cells arr t)) (.ptr st.nx 0) u
theorem br {d:Nat} {t:TypeId} {zs:List Value} {ty:TypeId} {pos:String} {af:Array Edge} [I:ZeroT P t zs]:AOp P ⟨some d,.alloc t,ty,pos,af,none⟩ d (.cells t (zs.map fun z=>.c (.v z))):=by
 refine ⟨rfl,rfl,fun st base w0 M a hs=>?_⟩
 obtain ⟨i,z,h1,h2,h3⟩:=I.out
 refine ⟨.pointer (some ⟨M.w.heap.size,0,none⟩),.blk M.w.heap.size,z.cells,t,?_,hs.newB (fun g hg=>by simpa [Conc.block] using hg.symm) ?_ (fun _ _ _ h=>by cases h),?_⟩
 ·simp only [execOp]
  simp [Instr.alloc,zeroValue,typeInfo,h1,h2,newVar,newRow]
 ·intro t' l hl
  simp only [AB.cells.injEq] at hl
  obtain ⟨rfl,rfl⟩:=hl
  subst h3
  refine ⟨rfl,rfl,by simp,fun i y u hy hu=>?_⟩
  simp only [List.getElem?_map,Array.getElem?_toList,hu,Option.map_some,Option.some.injEq] at hy
  subst hy;exact .c (.v _)
 ·refine .ptr ?_
  simp [Wd.new,hs.nx]
inductive DG (P:Program) (ops:Array Oper) (o:Oper) (st:St):St→Prop
 | q {d:Nat} {y:AV} (h:DY P ops o st d y):DG P ops o st (st.put d y)
 | a {d:Nat} {x:AB} (h:AOp P o d x) (hd:Nat.blt d st.n=true):DG P ops o st ((st.new x).put d (.ptr st.nx 0))
theorem StEq.new {s t:St} (h:StEq s t) (x:AB):StEq (s.new x) (t.new x) :=
 ⟨h.n,by simp only [St.new];rw [h.heap,h.nx],by simp only [St.new];rw [h.nx],h.gl,h.env⟩
theorem DG.eq {o:Oper} {s t s':St} (h:DG P ops o s s') (e:StEq s t):∃ t',DG P ops o t t'∧StEq s' t':=by
 cases h with
 | q h=>exact ⟨_,.q (h.eq e),e.put _ _⟩
 | a h hd=>exact ⟨_,.a h (by rw [← e.n];exact hd),by rw [e.nx];exact (e.new _).put _ _⟩
def Fr (st:St):Prop:=∀ b,st.nx≤b→st.H b=none
def frB (heap:List (Nat×Option AB)) (nx:Nat):Bool:=heap.all fun p=>Nat.blt p.1 nx
theorem fr_of {st:St} (h:frB st.heap st.nx=true):Fr st:=by
 intro b hb
 have:bf b st.heap=none:=by
  have h:∀ p∈st.heap,p.1 < st.nx:=fun p hp=>ba (List.all_eq_true.1 h p hp)
  generalize st.heap=l at h
  induction l with
  | nil=>rfl
  | cons p l ih =>
   rw [show p::l=(p.1,p.2)::l from rfl,az,if_neg (by have:=h p (by simp);omega)]
   exact ih (fun q hq=>h q (by simp [hq]))
 unfold St.H;rw [this]
theorem Fr.put {st:St} (h:Fr st) (d:Nat) (y:AV):Fr (st.put d y):=h
theorem Fr.new {st:St} (h:Fr st) (x:AB):Fr (st.new x):=fun b hb=>by
 have:st.nx+1≤b:=hb
 rw [fq,if_neg (by omega)];exact h b (by omega)
theorem DY.new {o:Oper} {s:St} {d:Nat} {y:AV} (h:DY P ops o s d y) (hf:Fr s) (x:AB):DY P ops o (s.new x) d y :=
 h.of rfl (fun b z hz=>by
  rw [fq,if_neg]
  ·exact hz
  ·intro e;subst e
   rw [hf _ (Nat.le_refl _)] at hz;cases hz) rfl (fun x _=>by cases x<;>rfl) (fun _ _ _ _ _=>rfl)
def DAny2 (P:Program) (md:Region.Mode) (ops:Array Oper) (n:Nat) (L:Array Bool→St→Prop):Nat→Array Bool→St→Prop
 | 0,listed,st=>L listed st
 | f+1,listed,st=>Region.ready md ops listed≠[]∧∀ i∈Region.ready md ops listed,i < n∧∃ o st',ops[i]?=some o∧DG P ops o st st'∧DAny2 P md ops n L f (listed.setIfInBounds i true) st'
variable {md:Region.Mode} {n:Nat} {L:Array Bool→St→Prop}
theorem DAny2.eq (hL:∀ listed s t,StEq s t→L listed s→L listed t):∀ (f:Nat) (listed:Array Bool) (s t:St),StEq s t→DAny2 P md ops n L f listed s→DAny2 P md ops n L f listed t
 | 0,listed,s,t,e,h=>hL listed s t e h
 | f+1,listed,s,t,e,h=>⟨h.1,fun i hi=>by
  obtain ⟨h1,o,s',h2,h3,h4⟩:=h.2 i hi
  obtain ⟨t',h5,h6⟩:=h3.eq e
  exact ⟨h1,o,t',h2,h5,DAny2.eq hL f _ _ _ h6 h4⟩⟩
theorem DAny2_last {i:Nat} {oi:Oper} (hi:ops[i]?=some oi) (hin:i < n) (hdone:∀ listed st,L listed st→∀ j∈Region.ready md ops listed,n≤j)
  (htail:∀ listed,HeadInv md ops n listed→∀ i,i < n→listed.getD i true=false→∀ t,n≤t→t ∉ Region.ready md ops listed)
  (listed:Array Bool) (st st':St) (inv:HeadInv md ops n listed) (hr:i∈Region.ready md ops listed) (hy:DG P ops oi st st') (H:L (listed.setIfInBounds i true) st'):DAny2 P md ops n L 1 listed st:=by
 refine ⟨fun h0=>(by rw [h0] at hr;cases hr),fun j hj=>?_⟩
 have hjn:j < n:=Nat.lt_of_not_le fun hc=>htail listed inv i hin (mem_ready.1 hr).1 j hc hj
 by_cases hji:j=i
 ·subst hji;exact ⟨hjn,oi,st',hi,hy,H⟩
 ·have:=hdone _ _ H j (ready_mono hj hji)
  omega
theorem DAny2_first {i:Nat} {oi:Oper} (hi:ops[i]?=some oi) (hin:i < n) (hL:∀ listed s t,StEq s t→L listed s→L listed t) (hdone:∀ listed st,L listed st→∀ j∈Region.ready md ops listed,n≤j)
  (htail:∀ listed,HeadInv md ops n listed→∀ i,i < n→listed.getD i true=false→∀ t,n≤t→t ∉ Region.ready md ops listed) :
  ∀ (f:Nat) (listed:Array Bool) (st:St) (d:Nat) (y:AV),Fr st→HeadInv md ops n listed →
   (∀ j oj,ops[j]?=some oj→j≠i→listed.getD j true=false→(∀ e∈oj.after,Region.binds md e=true→e.on≠i)→oi.apart ops oj=true) →
   i∈Region.ready md ops listed→DY P ops oi st d y→DAny2 P md ops n L f (listed.setIfInBounds i true) (st.put d y)→DAny2 P md ops n L (f+1) listed st:=by
 intro f
 induction f with
 | zero =>
  intro listed st d y _ inv hfree hr hy H
  exact DAny2_last hi hin hdone htail listed st _ inv hr (.q hy) H
 | succ f ih =>
  intro listed st d y fr inv hfree hr hy H
  refine ⟨fun h0=>(by rw [h0] at hr;cases hr),fun j hj=>?_⟩
  have hjn:j < n:=Nat.lt_of_not_le fun hc=>htail listed inv i hin (mem_ready.1 hr).1 j hc hj
  by_cases hji:j=i
  ·subst hji;exact ⟨hjn,oi,_,hi,.q hy,H⟩
  ·obtain ⟨_,oj,sj,h2,h3,h4⟩:=H.2 j (ready_mono hj hji)
   obtain ⟨hjun,oj',hoj,hall⟩:=mem_ready.1 hj
   have hoo:oj'=oj:=Option.some.inj (hoj.symm.trans h2)
   subst hoo
   have hnot:∀ e∈oj'.after,Region.binds md e=true→e.on≠i:=fun e he hb heq=>by
    have h1:=hall e he hb
    have h0:=getD_both (mem_ready.1 hr).1
    rw [heq,h0] at h1
    cases h1
   obtain ⟨a1,a2,a3⟩:=Oper.apart_spec (hfree j oj' hoj hji hjun hnot)
   have hdi:oi.dst=some d:=hy.1
   have hfree':∀ k ok,ops[k]?=some ok→k≠i→(listed.setIfInBounds j true).getD k true=false→(∀ e∈ok.after,Region.binds md e=true→e.on≠i)→oi.apart ops ok=true:=fun k ok hk hki hun hno=>by
    refine hfree k ok hk hki ?_ hno
    by_cases hjk:j=k
    ·subst hjk;exact hjun
    ·rw [getD_set_ne true hjk] at hun;exact hun
   cases h3 with
   | @q dj yj h3 =>
    have hdj:oj'.dst=some dj:=h3.1
    have hne:d≠dj:=fun e=>a2 d hdi (by rw [hdj,e])
    refine ⟨hjn,oj',_,h2,.q (h3.unput (a1 d hdi)),?_⟩
    refine ih (listed.setIfInBounds j true) (st.put dj yj) d y (fr.put _ _) (inv.set hj hjn) hfree' (ready_mono hr (Ne.symm hji)) (hy.put yj (a3 dj hdj)) ?_
    rw [Array.setIfInBounds_comm _ _ hji]
    exact DAny2.eq hL f _ _ _ (StEq.comm st hne y yj) h4
   | @a dj x h3 hd3 =>
    have hdj:oj'.dst=some dj:=h3.2.1
    have hne:d≠dj:=fun e=>a2 d hdi (by rw [hdj,e])
    refine ⟨hjn,oj',_,h2,.a h3 hd3,?_⟩
    refine ih (listed.setIfInBounds j true) ((st.new x).put dj (.ptr st.nx 0)) d y ((fr.new x).put _ _) (inv.set hj hjn) hfree' (ready_mono hr (Ne.symm hji)) ((hy.new fr x).put _ (a3 dj hdj)) ?_
    rw [Array.setIfInBounds_comm _ _ hji]
    exact DAny2.eq hL f _ _ _ (StEq.comm (st.new x) hne y _) h4
theorem DAny2_lex {g:Nat} {Lq:St→Prop} {oa:Oper} {da:Nat} {x:AB} (hoa:ops[n]?=some oa) (ha:AOp P oa da x) (hLq:∀ s t,StEq s t→Lq s→Lq t)
  (htail:∀ listed,HeadInv md ops (n+1) listed→∀ i,i < n+1→listed.getD i true=false→∀ t,n+1≤t→t ∉ Region.ready md ops listed) :
  ∀ (l:List Oper) (k:Nat) (listed:Array Bool) (st:St),(∀ j,j < l.length→l[j]?=ops[k+j]?)→k+l.length=n→HeadInv md ops (n+1) listed→Fr st →
  Region.lexHead md ops g (l.length+1) k listed=true→bW P ops (fun s=>Nat.blt da s.n=true∧Lq ((s.new x).put da (.ptr s.nx 0))) l st→DAny2 P md ops (n+1) (fun listed' st'=>Region.seqB md ops g (n+1) listed'=true∧Lq st') (l.length+1) listed st
 | [],k,listed,st,_,hk,inv,_,hB,h=>by
  have:k=n:=by simpa using hk
  subst this
  simp only [List.length_nil,Region.lexHead,Bool.and_eq_true] at hB
  obtain ⟨⟨hr,hf⟩,hB'⟩:=hB
  have hr':k∈Region.ready md ops listed:=by simpa using hr
  exact DAny2_last hoa (Nat.lt_succ_self _) (fun listed' st' hL=>seqB_ready hL.1) htail listed st _ inv hr' (.a ha h.1) ⟨hB',h.2⟩
 | o::l,k,listed,st,hl,hk,inv,fr,hB,h=>by
  have h0:ops[k]?=some o:=by simpa using (hl 0 (by simp)).symm
  simp only [List.length_cons] at hB
  unfold Region.lexHead at hB
  simp only [Bool.and_eq_true] at hB
  obtain ⟨⟨hr,hf⟩,hB'⟩:=hB
  have hkn:k < n+1:=by simp only [List.length_cons] at hk;omega
  have hr':k∈Region.ready md ops listed:=by simpa using hr
  obtain ⟨d,y,hy,hK⟩:=h
  exact DAny2_first h0 hkn (fun listed s t e hh=>⟨hh.1,hLq s t e hh.2⟩) (fun listed' st' hL=>seqB_ready hL.1) htail (l.length+1) listed st d y fr inv (Region.free_spec h0 hf) hr' hy
   (DAny2_lex hoa ha hLq htail l (k+1) _ _ (fun j hj=>by have:=hl (j+1) (by simp;omega);simpa [Nat.add_assoc,Nat.add_comm 1 j] using this) (by simp only [List.length_cons] at hk;omega) (inv.set hr' hkn) (fr.put _ _) hB' hK)
theorem DG.wp {base:Nat} {w0:W0} {st st':St} {M:Wd} {a:Act} {i:Nat} {o:Oper} {K:Act→World→Prop} {Q':Exit→Act→World→Prop} (hi:ops[i]?=some o) (h:DG P ops o st st') (hs:Sim base w0 st M a)
  (hK:∀ M' a',Ext M M'→Sim base w0 st' M' a'→K a' M'.w):wpOp P ops Q' i K a M.w:=by
 cases h with
 | q h=>exact h.wp hi hs hK
 | @a d x h hd =>
  obtain ⟨g,hdst,hrun⟩:=h
  obtain ⟨u,c,arr,t,e1,e2,e3⟩:=hrun st base w0 M a hs
  unfold wpOp
  simp only [hi]
  rw [if_pos (by simp [Region.wanted,g])]
  refine .inl ?_
  unfold Oper.wp
  rw [e1]
  have:=hK (M.new st x c (.cells arr t)) (a.put o.dst u) (hs.extNew x c _) (by rw [hdst];exact e2.put hd e3)
  exact this
theorem wpAny_of_DAny2 {base:Nat} {w0:W0} {M0:Wd} {Q:Exit→St→Prop} {g:Nat} (hL:∀ listed st M a,L listed st→Sim base w0 st M a→Ext M0 M→wpAny P md ops (bN base w0 M0 Q) g listed a M.w) :
  ∀ (f:Nat) (listed:Array Bool) (st:St) (M:Wd) (a:Act),Sim base w0 st M a→Ext M0 M→DAny2 P md ops n L f listed st→wpAny P md ops (bN base w0 M0 Q) (f+g) listed a M.w
 | 0,listed,st,M,a,hs,he,h=>by rw [Nat.zero_add];exact hL _ _ _ _ h hs he
 | f+1,listed,st,M,a,hs,he,h=>by
  rw [show f+1+g=(f+g)+1 by omega]
  refine ⟨fun h0=>absurd h0 h.1,fun i hi=>?_⟩
  obtain ⟨_,o,st',h1,h2,h3⟩:=h.2 i hi
  exact h2.wp h1 hs fun M' a' hext hs'=>wpAny_of_DAny2 hL f _ _ M' a' hs' (he.trans hext) h3
theorem bT {id:Nat} {l:List Oper} {Q:Exit→St→Prop} {st:St} [m:Mixed P] (n:Nat) {oa:Oper} {da:Nat} {x:AB} (hB:drawB l.toArray (n+1)=true) (hoa:l[n]?=some oa) (ha:AOp P oa da x) (hf:frB st.heap st.nx=true)
  (h:bW P l.toArray (fun s=>Nat.blt da s.n=true∧aP P l.toArray Q (l.drop (n+1)) ((s.new x).put da (.ptr s.nx 0))) (l.take n) st):gf P (.region id l.toArray true) Q st:=by
 simp only [drawB,Bool.and_eq_true,Bool.or_eq_true] at hB
 obtain ⟨⟨⟨hsel,hle⟩,hcase⟩,hlex⟩:=hB
 have hle:=Nat.le_of_ble_eq_true hle
 have hle':n+1≤l.length:=by simpa using hle
 have htl:(l.take n).length=n:=by simp;omega
 have hdl:(l.drop (n+1)).length=l.toArray.size - (n+1):=by simp
 have inv0:HeadInv .any l.toArray (n+1) (Array.replicate l.toArray.size false) :=
  ⟨by simp,fun j oj _ hl=>(by rw [getD_replicate_false] at hl;cases hl),fun t _ ht=>getD_in (by simpa using ht) (getD_replicate_false _ _)⟩
 have htail:∀ listed,HeadInv .any l.toArray (n+1) listed→∀ i,i < n+1→listed.getD i true=false→∀ t,n+1≤t→t ∉ Region.ready .any l.toArray listed:=by
  intro listed inv i hi hun t ht
  rcases hcase with he|⟨hs,hc⟩
  ·intro hr
   obtain ⟨_,o,ho,_⟩:=mem_ready.1 hr
   have:=(Array.getElem?_eq_some_iff.1 ho).1
   have:=cu he
   omega
  ·rcases Nat.lt_or_ge (n+1) l.toArray.size with hn|hn
   ·exact tail_waits hs hc hn inv _ i rfl hi hun t ht
   ·intro hr
    obtain ⟨_,o,ho,_⟩:=mem_ready.1 hr
    have:=(Array.getElem?_eq_some_iff.1 ho).1
    omega
 intro base w0 M a hs
 have H:=DAny2_lex (P:=P) (md:=.any) (ops:=l.toArray) (n:=n) (g:=l.toArray.size - (n+1)) (Lq:=aP P l.toArray Q (l.drop (n+1))) (by simpa using hoa) ha (fun s t e hh=>fun base w0 M a hs'=>hh base w0 M a (e.symm.sim hs')) htail (l.take n) 0 _ st (fun j hj=>by
  have hj':j < n:=by rw [htl] at hj;exact hj
  simp [hj']) (by simpa using htl) inv0 (fr_of hf) (by rw [htl];exact hlex) h
 refine wp_region_any m.h ?_
 have:=wpAny_of_DAny2 (P:=P) (md:=.any) (ops:=l.toArray) (n:=n+1) (base:=base) (w0:=w0) (M0:=M) (Q:=Q) (g:=l.toArray.size - (n+1)) (fun listed st' M' a' hL hs' he=>by
  have h1:=aM (fun e a w=>bN.ext he) _ _ _ (hL.2 base w0 M' a' hs')
  have h2:=wpAny_of_seq (md:=.any) (l.drop (n+1)) (n+1) listed a' M'.w (fun j=>by simp) (by rw [hdl];exact hL.1) h1
  rwa [hdl] at h2) ((l.take n).length+1) (Array.replicate l.toArray.size false) st M.drew a hs.drew (Ext.drew M) H
 rw [htl] at this
 rw [show n+1+(l.toArray.size - (n+1))=l.toArray.size by omega] at this
 exact this
theorem cy {da nn nx:Nat} {x:AB} {tl:List Oper} {env:List (Nat×AV)} {heap:List (Nat×Option AB)} {gl:List (Nat×List CV)} {Q:Exit→St→Prop} (h1:Nat.blt da nn=true) (h2:aP P ops Q tl ⟨nn,(da,.ptr nx 0)::env,(nx,some x)::heap,nx+1,gl⟩):bW P ops (fun s=>Nat.blt da s.n=true∧aP P ops Q tl ((s.new x).put da (.ptr s.nx 0))) [] ⟨nn,env,heap,nx,gl⟩:=⟨h1,h2⟩
end
end Go.Proofs.YtdndfncpglfdeaaGreatDoor.Ev
