/- walks; pruned haves; hints pruned; squeezed -/
import Derived.Test.YtckdhcbbgmiccaaGreatDoorLdzMod82k0
import Derived.Test.YtckdhcbbgmiccaaGreatDoorLdzW86
open Go.Proofs.Tryz
set_option linter.unusedVariables false
set_option linter.unusedSimpArgs false
namespace Go.Proofs.YtckdhcbbgmiccaaGreatDoor
set_option maxRecDepth 100000
set_option maxHeartbeats 4000000
variable {w:World} {F:Nat→Prop} {a1:Option Addr} {n1 c1:Nat}
theorem Jy (code:List UInt8) (h1:RepS w F a1 n1 c1 code) (htab:RepS w F (some ⟨5,0,none⟩) CE.length CE.length CE)  : Calls Tryz.prog 3 [.slice a1 n1 c1].toArray w (Al fun rv w'=>rv=.bool (true)∧Ext w w'):=by
 cases h1.len
 refine goT func3 ?_
 have Z:=((St.i0 F w).p h1).p htab
 refine .s<|.g<|.r 1<|.d<|.s<|.s<|.g<|.r 2<|.bp ((code.length:Int) > 1048576) (fun ac=>.d<|.ct<|.s<|.g<|.r 1<|.d<|T.rt func3 results3 (.bool true) ⟨(AG AF),Z.xt⟩) fun ac=>.d<|.cf<|.sk<|.s<|.g<|.r 1<|RG.cl (Bw code (Z.a 1)) ?_
 rintro _ w ⟨⟨E,rfl,am⟩,ae⟩
 have Z:=Z.e ae
 refine .r 1<|.d<|.s<|.g<|.r 1<|RG.C0 (Aj E (Z.mg 1 0) (by have q1:LsO E∧E.length≤2000:=‹_›; exact fun _=>q1.1.lns) (by have q1:LsO E∧E.length≤2000:=‹_›; omega)) Z fun w Z=>.r 1<|.d<|.s<|.s<|.g<|.r 2<|RG.C0 (CC E (by have q1:LsO E∧E.length≤2000:=‹_›; exact fun _=>q1.1.lns) (by have q1:LsO E∧E.length≤2000:=‹_›; omega) (F:=all)) Z fun w Z=>?_
 have af:((Aa E)==(Aa E))=true:=(beq_self_eq_true _)
 refine RG.eqv (v:=.bool false) AA ((K3 (Aa E) (Aa E)).trans (congrArg (fun b=>Value.bool (!b)) af))<|.d<|.cf<|.sk<|.s<|.s<|.g<|.r 1<|RG.eqv (v:=vI (E.length:Int)) AA (CA E)<|.bp ((E.length:Int) > 600) (fun ag=>?_) (fun ag=>?_)
 ·refine .d<|.ct<|.s<|.g<|.r 1 ?_
  have ah:((Aa E)==[116,111,111,32,108,111,110,103,10])=true:=(by (rw [Oy AB]; exact beq_self_eq_true QI))
  exact RG.eqv (v:=.bool true) AA ((Cv (Aa E) [116,111,111,32,108,111,110,103,10]).trans (AG ah))<|.r 1<|.d<|T.rt func3 results3 (.bool true) ⟨(AG AF),Z.xt⟩
 refine .d<|.cf<|.sk<|.s<|.g<|.r 1<|RG.eqv (v:=vI ((Aa E).length:Int)) AA (CA (Aa E))<|.bp (((Aa E).length:Int)≥4) (fun ai=>?_) (fun ai=>.r 9<|.d<|T.rt func3 results3 (.bool false) ⟨(AG (by exfalso; have q1:LsO E∧E.length≤2000:=‹_›; (have q3:=ZZ q1.1 ‹_›; omega))),Z.xt⟩)
 refine .r 3<|RG.eqv (v:=vI ((Aa E).length:Int)) AA (CA (Aa E))<|RG.int (((Aa E).length:Int) - 1) AA (by have q1:LsO E∧E.length≤2000:=‹_›; have q2:=SZ q1.1 ‹_›; omega) ?_
 obtain ⟨aj,ab⟩:∃ y,(Aa E)[((Aa E).length) - 1]? = some y:=⟨_,AU (by have q1:LsO E∧E.length≤2000:=‹_›; omega)⟩
 exact RG.GX (t:=9) (s:=Aa E) (k:=.i64) (i:=((Aa E).length:Int) - 1) (((Aa E).length) - 1) AA AA AB ab<|.r 3<|.d<|T.rt func3 results3 (.bool ((aj.toNat:Int)==10)) ⟨(AG (by (have q1:LsO E∧E.length≤2000:=‹_›; rw [Xk q1.1 ‹_› ‹_› AB]; rfl))),Z.xt⟩
end Go.Proofs.YtckdhcbbgmiccaaGreatDoor
