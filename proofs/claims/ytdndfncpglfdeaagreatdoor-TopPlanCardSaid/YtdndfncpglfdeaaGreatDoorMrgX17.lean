/- SF: texts laid together. -/
import Derived.Test.YtdndfncpglfdeaaGreatDoorMrgX16

namespace Go.Proofs.YtdndfncpglfdeaaGreatDoor.Tp
set_option linter.unusedVariables false
set_option linter.unusedSimpArgs false
open Go.RowKit Go.Proofs.YtdndfncpglfdeaaGreatDoor.Ev
open Go.Proofs.YtdndfncpglfdeaaGreatDoor.Cu (TV PV OKs aR gOf bC)
open Go.Proofs.YtdndfncpglfdeaaGreatDoor.Ge (an aG Slc Dfc aw bH ey)
variable {l:List Slc} {d:List Dfc} {c:List Pr} {s:Sw} {r:Rt}
theorem filt_le {α:Type} (p q:α→Bool):∀ l:List α,(l.filter (fun x=>p x && q x)).length≤(l.filter p).length
 | []=>Nat.le_refl _
 | x::l=>by
  have ih:=filt_le p q l
  simp only [List.filter_cons]
  cases p x<;>cases q x<;>simp<;>omega
theorem filt_all {α:Type} (p q:α→Bool):∀ l:List α,(l.filter (fun x=>p x && q x)).length=(l.filter p).length→∀ x∈l,p x=true→q x=true
 | [],_,_,hx,_=>absurd hx List.not_mem_nil
 | y::l,h,x,hx,hp=>by
  have hle:=filt_le p q l
  simp only [List.filter_cons] at h
  rcases List.mem_cons.1 hx with rfl|hx
  ·rw [hp] at h
   cases hq:q x with
   | true=>rfl
   | false=>rw [hq] at h;simp at h;omega
  ·refine filt_all p q l ?_ x hx hp
   cases h1:p y<;>cases h2:q y<;>rw [h1,h2] at h<;>simp at h<;>omega
def isLf (x:aG×Int):Bool:=decide (x.2≠-1)
theorem bdN_len (fine:Int) (lv:List (aG×Int)):∀ n,n≤lv.length→(bdN l d c s fine lv n).length=((lv.take n).filter (fun x=>isLf x && (bdF l d c s fine x.1 x.2).isSome)).length
 | 0,_=>by rw [List.take_zero];rfl
 | n+1,hn=>by
  rw [bdN,List.getElem?_eq_getElem (by omega),List.length_append,bdN_len fine lv n (by omega),List.take_succ_eq_append_getElem (by omega),List.filter_append,List.length_append]
  congr 1
  dsimp only
  unfold bd1
  rw [List.filter_cons,List.filter_nil]
  unfold isLf bdF
  by_cases h1:lv[n].2=-1
  ·rw [if_pos h1];simp [h1]
  ·rw [if_neg h1]
   split
   ·simp [h1]
   ·simp
theorem leaf_cnt {k:Int}:∀ (t:Tr) (R:aG),OkG k (szB c) R t→((aC k R t).filter isLf).length=((aq t).filter dz).length
 | .leaf n,R,h=>by
  rcases h with rfl|⟨h1,h2,_⟩
  ·rfl
  ·simp only [aC,aq,List.filter_cons,List.filter_nil]
   unfold isLf dz
   rw [if_neg (show ¬ n.1=0 by omega)]
   dsimp only
   rw [if_pos (by simp;omega),if_pos (by simp [h1])]
   rfl
 | .rip ax a t u,R,⟨h1,_,_,h4,h5⟩=>by
  have e1:=leaf_cnt t _ h4
  have e2:=leaf_cnt u _ h5
  simp only [aC,aq,List.filter_append,List.length_append,List.filter_cons]
  rw [e1,e2,if_neg (by unfold dz;simp;omega),List.length_append]
theorem gives_of {R:aG} {T:Tr} (hT:OkG s.kerf (szB c) R T) (h:(bdN l d c s r.fine (aC s.kerf R T) (aC s.kerf R T).length).length=((aq T).filter dz).length):Gives l d c s r R T:=by
 rw [bdN_len _ _ _ (Nat.le_refl _),List.take_length,← leaf_cnt T R hT] at h
 intro x hx hn
 exact filt_all isLf _ _ h x hx (by unfold isLf;simp [hn])
theorem member_okG (h:Hy l d c s r) {X Y:an} (hX:aJ X) (hY:aJ Y) {ps:List (an×Tr)} (ho:eN s.kerf Y.2 Y.1 ps)
  (hp:∀ x∈ps,(x.1.1 - Y.1).tmod s.pitch=0∧x.1.2 - x.1.1∈aE c∧StripT c X x.1 s x.2):OkG s.kerf (szB c) (X,Y) (bM s.kerf 3 Y.2 Y.1 ps) :=
 row_okG (R:=(X,Y)) h.sw.1 (.inr rfl) _ Y.1 (by have:=hY.2.1;omega) ho fun y hy=>strip_okG h hX (hp y hy).2.2
theorem other_le (h:Hy l d c s r) (hd:r.dust≤r.chip) {X Y:an} (hX:aJ X) (hY:aJ Y) (hg:10≤s.pitch) (hw:X.2 - X.1≤160) {ps:List (an×Tr)} (ho:eN s.kerf Y.2 Y.1 ps)
  (hp:∀ x∈ps,(x.1.1 - Y.1).tmod s.pitch=0∧x.1.2 - x.1.1∈aE c∧StripT c X x.1 s x.2)
  (hb:(bdN l d c s r.fine (aC s.kerf (X,Y) (bM s.kerf 3 Y.2 Y.1 ps)) (aC s.kerf (X,Y) (bM s.kerf 3 Y.2 Y.1 ps)).length).length=((aq (bM s.kerf 3 Y.2 Y.1 ps)).filter dz).length) :
  yVal l s r (cG s.kerf (X,Y) (bM s.kerf 3 Y.2 Y.1 ps)) (bdN l d c s r.fine (aC s.kerf (X,Y) (bM s.kerf 3 Y.2 Y.1 ps)) (aC s.kerf (X,Y) (bM s.kerf 3 Y.2 Y.1 ps)).length)≤pVal l d c X Y s r:=by
 have hT:=member_okG h hX hY ho hp
 have hle:=(member_le h hd hX hY hg hw ho hp (gives_of hT hb)).2
 rw [yVal_eq h hT]
 unfold pVal
 omega
end Go.Proofs.YtdndfncpglfdeaaGreatDoor.Tp
