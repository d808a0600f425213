/- GOpen: texts laid together. -/
import Derived.Test.YtdndfncpglfdeaaGreatDoorMrgF0
import Derived.Test.YtdndfncpglfdeaaGreatDoorMrgG1
import Derived.ChangeSame

namespace Go.Proofs.YtdndfncpglfdeaaGreatDoor.Ge
set_option linter.unusedVariables false
set_option linter.unusedSimpArgs false
open Go.RowKit Go.ChangeShapes Go.Proofs.YtdndfncpglfdeaaGreatDoor.Ev
section
variable {H:Type} {de:TypeId×Value→H} {w:World}
instance:Inhabited Sec:=⟨sec0⟩
instance:Inhabited Slc:=⟨slc0⟩
theorem fits_of {n:Int} (h:(Lit.int .i64 n).wf=true):aQ n:=by
 unfold aQ
 simp [Lit.wf,IntKind.min,IntKind.max,IntKind.bits,IntKind.signed] at h
 omega
theorem eE:Opn de Tryz.prog w 3 ce (fun n=>aQ n):=(opn_int Tryz.underlying3).imp id (fun _=>rfl) (fun _ h=>fits_of h)
theorem o_ints:Opn de Tryz.prog w 58 (fun l:List Int=>[LI l]) (fun l=>l.length≤maxLen):=(fW (size:=1) (enc:=ce) Tryz.underlying58 (by kernel_rfl) (by decide) (fun _=>rfl) eE).imp id (fun _=>rfl) (fun _ h=>h.2)
theorem o_span:Opn de Tryz.prog w 35 gw (fun x=>aQ x.1∧aQ x.2) :=
 (cO Tryz.underlying35 (by kernel_rfl) rfl (bu eE (dZ eE))).imp id (fun _=>rfl) (fun _ h=>h)
theorem o_spans:Opn de Tryz.prog w 75 (fun l:List an=>[LS l]) (fun l=>l.length≤maxLen) :=
 (fW (size:=2) (enc:=gw) Tryz.underlying75 (by kernel_rfl) (by decide) (fun _=>rfl) o_span).imp id (fun _=>rfl) (fun _ h=>h.2)
def secL (s:Sec):List CV:=[I s.low,LS s.rows]
theorem o_sec:Opn de Tryz.prog w 121 secL (fun s=>s.rows.length≤maxLen) :=
 (cO Tryz.underlying121 (by kernel_rfl) rfl (bu eE (dZ o_spans))).imp (fun x=>(⟨x.1,x.2⟩:Sec)) (fun _=>rfl) (fun _ h=>h.2)
theorem o_slice:Opn de Tryz.prog w 123 slcC (fun s=>s.sec.rows.length≤maxLen) :=
 (cO Tryz.underlying123 (by kernel_rfl) rfl (bu eE (dZ o_sec))).imp (fun x=>(⟨x.1,x.2⟩:Slc)) (fun _=>rfl) (fun _ h=>h.2)
theorem o_slices:Opn de Tryz.prog w 22 (fun l:List Slc=>[LL l]) (fun l=>l.length≤maxLen) :=
 (fW (size:=3) (enc:=slcC) Tryz.underlying22 (by kernel_rfl) (by decide) (fun _=>rfl) o_slice).imp id (fun _=>rfl) (fun _ h=>h.2)
def boxL (b:an×an×an):List CV:=[I b.1.1,I b.1.2,I b.2.1.1,I b.2.1.2,I b.2.2.1,I b.2.2.2]
theorem o_box:Opn de Tryz.prog w 115 boxL (fun b=>(aQ b.1.1∧aQ b.1.2)∧(aQ b.2.1.1∧aQ b.2.1.2)∧(aQ b.2.2.1∧aQ b.2.2.2)):=(cO Tryz.underlying115 (by kernel_rfl) rfl (bu o_span (bu o_span (dZ o_span)))).imp id (fun _=>rfl) (fun _ h=>h)
end
end Go.Proofs.YtdndfncpglfdeaaGreatDoor.Ge
