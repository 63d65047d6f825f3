/- walks; pruned haves; hints pruned; squeezed -/
import Derived.Test.YtckdhcbbgmiccaaGreatDoorLdzMod82k3
import Derived.Test.YtckdhcbbgmiccaaGreatDoorLdzW86
open Go.Proofs.Tryz
set_option linter.unusedVariables false
set_option linter.unusedSimpArgs false
namespace Go.Proofs.YtckdhcbbgmiccaaGreatDoor
set_option maxRecDepth 100000
set_option maxHeartbeats 4000000
variable {w:World} {F:Nat→Prop} {a1:Option Addr} {n1 c1:Nat}
theorem IM (code:List UInt8) (h1:RepS w F a1 n1 c1 code) (htab:RepS w F (some ⟨5,0,none⟩) CE.length CE.length CE)  : Calls Tryz.prog 8 [.slice a1 n1 c1].toArray w (Al fun rv w'=>rv=.bool (true)∧Ext w w'):=by
 cases h1.len
 refine goT func8 ?_
 have Z:=((St.i0 F w).p h1).p htab
 refine .s<|.g<|.r 1<|.d<|.s<|.s<|.g<|.r 2<|.bp ((code.length:Int) > 1048576) (fun ab=>.d<|.ct<|.s<|.g<|.r 1<|.d<|T.rt func8 results8 (.bool true) ⟨(AG AF),Z.xt⟩) fun ab=>.d<|.cf<|.sk<|.s<|.g<|.r 1<|RG.cl (Bw code (Z.a 1)) ?_
 rintro _ w ⟨⟨E,rfl,am⟩,ac⟩
 have Z:=Z.e ac
 refine .r 1<|.d<|.s<|.g<|.r 1<|RG.C0 (Aj E (Z.mg 1 0) (by have q1:LsO E∧E.length≤2000:=‹_›; exact fun _=>q1.1.lns) (by have q1:LsO E∧E.length≤2000:=‹_›; omega)) Z fun w Z=>.r 1<|.d<|.s<|.s<|.g<|.r 2<|RG.C0 (CC E (by have q1:LsO E∧E.length≤2000:=‹_›; exact fun _=>q1.1.lns) (by have q1:LsO E∧E.length≤2000:=‹_›; omega) (F:=all)) Z fun w Z=>?_
 have ae:((Aa E)==(Aa E))=true:=(beq_self_eq_true _)
 refine RG.eqv (v:=.bool false) AA ((K3 (Aa E) (Aa E)).trans (congrArg (fun b=>Value.bool (!b)) ae))<|.r 2<|RG.eqv (v:=vI (E.length:Int)) AA (CA E)<|.bp ((E.length:Int) > 570) (fun af=>?_) (fun af=>?_)
 ·refine .r 1<|.d<|.ct<|.s<|.g<|.r 2<|RG.C0 (CC E (by have q1:LsO E∧E.length≤2000:=‹_›; exact fun _=>q1.1.lns) (by have q1:LsO E∧E.length≤2000:=‹_›; omega) (F:=all)) Z fun w Z=>?_
  have ag:((Aa E)==(Aa E))=true:=(beq_self_eq_true _)
  exact RG.eqv (v:=.bool true) AA ((Cv (Aa E) (Aa E)).trans (AG ag))<|.r 1<|.d<|T.rt func8 results8 (.bool true) ⟨(AG AF),Z.xt⟩
 refine .r 1<|.d<|.cf<|.sk<|.s<|.g<|.r 1<|RG.cat (t:=9) (s:=E) (u:=[102,108,117,115,104,10]) AA (by have q1:LsO E∧E.length≤2000:=‹_›; (simp only [List.length_append,List.length_cons,List.length_nil]; omega))<|RG.C0 (Aj (E++[102,108,117,115,104,10]) (Z.mg 1 0) (by have q1:LsO E∧E.length≤2000:=‹_›; exact fun _=>(LsO.app q1.1 (LsO.one LnO.flush)).lns) (by have q1:LsO E∧E.length≤2000:=‹_›; (simp only [List.length_append,List.length_cons,List.length_nil]; omega))) Z fun w Z=>.r 1 ?_
 have ah:((Aa (E++[102,108,117,115,104,10]))==(Aa E))=true:=(by have q1:LsO E∧E.length≤2000:=‹_›; (rw [o6 q1.1 ‹_›]; exact beq_self_eq_true _))
 refine RG.eqv (v:=.bool true) AA ((Cv (Aa (E++[102,108,117,115,104,10])) (Aa E)).trans (AG ah))<|.r 2<|RG.cat (t:=9) (s:=E) (u:=[109,101,114,103,101,32,48,10]) AA (by have q1:LsO E∧E.length≤2000:=‹_›; (simp only [List.length_append,List.length_cons,List.length_nil]; omega))<|RG.C0 (Aj (E++[109,101,114,103,101,32,48,10]) (Z.mg 1 0) (by have q1:LsO E∧E.length≤2000:=‹_›; exact fun _=>(LsO.app q1.1 (LsO.one LnO.merge)).lns) (by have q1:LsO E∧E.length≤2000:=‹_›; (simp only [List.length_append,List.length_cons,List.length_nil]; omega))) Z fun w Z=>.r 1 ?_
 have ai:((Aa (E++[109,101,114,103,101,32,48,10]))==(Aa E))=true:=(by have q1:LsO E∧E.length≤2000:=‹_›; (rw [o7 q1.1 ‹_›]; exact beq_self_eq_true _))
 refine RG.eqv (v:=.bool true) AA ((Cv (Aa (E++[109,101,114,103,101,32,48,10])) (Aa E)).trans (AG ai))<|.r 3<|RG.cat (t:=9) (s:=E) (u:=[102,108,117,115,104,10,109,101,114,103,101,32,48,10,109,101,114,103,101,32,48,10]) AA (by have q1:LsO E∧E.length≤2000:=‹_›; (simp only [List.length_append,List.length_cons,List.length_nil]; omega))<|RG.C0 (Aj (E++[102,108,117,115,104,10,109,101,114,103,101,32,48,10,109,101,114,103,101,32,48,10]) (Z.mg 1 0) (by have q1:LsO E∧E.length≤2000:=‹_›; exact fun _=>(LsO.app q1.1 ((LsO.one LnO.flush).app ((LsO.one LnO.merge).app (LsO.one LnO.merge)))).lns) (by have q1:LsO E∧E.length≤2000:=‹_›; (simp only [List.length_append,List.length_cons,List.length_nil]; omega))) Z fun w Z=>.r 1 ?_
 have aj:((Aa (E++[102,108,117,115,104,10,109,101,114,103,101,32,48,10,109,101,114,103,101,32,48,10]))==(Aa E))=true:=(by have q1:LsO E∧E.length≤2000:=‹_›; (rw [o8 q1.1 ‹_›]; exact beq_self_eq_true _))
 exact RG.eqv (v:=.bool true) AA ((Cv (Aa (E++[102,108,117,115,104,10,109,101,114,103,101,32,48,10,109,101,114,103,101,32,48,10])) (Aa E)).trans (AG aj))<|.r 2<|.d<|T.rt func8 results8 (.bool true) ⟨(AG AF),Z.xt⟩
end Go.Proofs.YtckdhcbbgmiccaaGreatDoor
