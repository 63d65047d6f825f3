/- walks; pruned haves; hints pruned; squeezed -/
import Derived.Test.YtckdhcbbgmiccaaGreatDoorLdzW86
open Go.Proofs.Tryz
set_option linter.unusedVariables false
set_option linter.unusedSimpArgs false
namespace Go.Proofs.YtckdhcbbgmiccaaGreatDoor
set_option maxRecDepth 100000
set_option maxHeartbeats 4000000
variable {w:World} {F:Nat→Prop} {a1:Option Addr} {n1 c1:Nat}
theorem I2 (code:List UInt8) (h1:RepS w F a1 n1 c1 code) (htab:RepS w F (some ⟨5,0,none⟩) CE.length CE.length CE)  : Calls Tryz.prog 5 [.slice a1 n1 c1].toArray w (Al fun rv w'=>rv=.bool (true)∧Ext w w'):=by
 cases h1.len
 refine goT func5 ?_
 have Z:=((St.i0 F w).p h1).p htab
 refine .s<|.g<|.r 1<|.d<|.s<|.s<|.g<|.r 2<|.bp ((code.length:Int) > 1048576) (fun ac=>.d<|.ct<|.s<|.g<|.r 1<|.d<|T.rt func5 results5 (.bool true) ⟨(AG AF),Z.xt⟩) fun ac=>.d<|.cf<|.sk<|.s<|.g<|.r 1<|RG.cl (Bw code (Z.a 1)) ?_
 rintro _ w ⟨⟨E,rfl,am⟩,ae⟩
 have Z:=Z.e ae
 refine .r 1<|.d<|.s<|.g<|.r 1<|RG.C0 (Aj E (Z.mg 1 0) (by have q1:LsO E∧E.length≤2000:=‹_›; exact fun _=>q1.1.lns) (by have q1:LsO E∧E.length≤2000:=‹_›; omega)) Z fun w Z=>.r 1<|.d<|.s<|.s<|.g<|.r 2<|RG.C0 (CC E (by have q1:LsO E∧E.length≤2000:=‹_›; exact fun _=>q1.1.lns) (by have q1:LsO E∧E.length≤2000:=‹_›; omega) (F:=all)) Z fun w Z=>?_
 have af:((Aa E)==(Aa E))=true:=(beq_self_eq_true _)
 refine RG.eqv (v:=.bool false) AA ((K3 (Aa E) (Aa E)).trans (congrArg (fun b=>Value.bool (!b)) af))<|.d<|.cf<|.sk<|.s<|.g<|.r 2<|.d<|.s<|.b 0<|T.Lp E (fun long=>([(5,vT long)],[],[],601 - long.length,(long.length≤2100)∧True)) [] Z ⟨(by have q1:LsO E∧E.length≤2000:=‹_›; omega),trivial⟩ ?_
 rintro long aq w Z ⟨ao,_⟩ ab
 refine .s<|.s<|.g<|.r 1<|RG.eqv (v:=vI (long.length:Int)) AA (CA long)<|.bp ((long.length:Int)≤600) (fun ag=>.d<|.ct<|.sk<|.b 1<|.g<|.r 1<|RG.cat (t:=9) (s:=long) (u:=[110,111,116,104,105,110,103,32,97,116,32,97,108,108,10]) AA (by have q1:LsO E∧E.length≤2000:=‹_›; (simp only [List.length_append,List.length_cons,List.length_nil]; omega))<|.r 1<|.d<|.ib 1<|ab (long++[110,111,116,104,105,110,103,32,97,116,32,97,108,108,10]) _ _ AA (Z.to 0 [] 0) ⟨(by (simp only [List.length_append,List.length_cons,List.length_nil]; omega)),trivial⟩ (by simp only [List.length_append,List.length_cons,List.length_nil]; omega)) fun ag=>.d<|.cf<|.x 0 rfl<|.s<|.g<|RG.C0 (Aj [119,104,97,116,10,97,100,100,32,120,32,49,32,49,10,97,115,107,10,97,100,100,32,98,61,112,44,97,61,112,32,49,32,49,10] (Z.mg 1 0) (by have q1:LsO E∧E.length≤2000:=‹_›; (exact fun _=>(by unfold GO LnD; decide +kernel))) (by have q1:LsO E∧E.length≤2000:=‹_›; decide)) Z fun w Z=>?_
 have ah:((Aa [119,104,97,116,10,97,100,100,32,120,32,49,32,49,10,97,115,107,10,97,100,100,32,98,61,112,44,97,61,112,32,49,32,49,10])==[119,104,97,116,10,119,104,97,116,10,119,104,97,116,10,119,104,97,116,10,97,108,108,10])=true:=(by decide +kernel)
 refine RG.eqv (v:=.bool true) AA ((Cv (Aa [119,104,97,116,10,97,100,100,32,120,32,49,32,49,10,97,115,107,10,97,100,100,32,98,61,112,44,97,61,112,32,49,32,49,10]) [119,104,97,116,10,119,104,97,116,10,119,104,97,116,10,119,104,97,116,10,97,108,108,10]).trans (AG ah))<|.r 1<|RG.C0 (Aj [97,100,100,32,97,61,112,32,49,10,97,100,100,32,97,61,112,32,45,49,32,49,10,109,101,114,103,101,32,48,10,102,108,117,115,104,10,102,97,108,108,10,97,115,107,32,42,32,48,32,57,57,10] (Z.mg 1 0) (by have q1:LsO E∧E.length≤2000:=‹_›; (exact fun _=>(by unfold GO LnD; decide +kernel))) (by have q1:LsO E∧E.length≤2000:=‹_›; decide)) Z fun w Z=>?_
 have ai:((Aa [97,100,100,32,97,61,112,32,49,10,97,100,100,32,97,61,112,32,45,49,32,49,10,109,101,114,103,101,32,48,10,102,108,117,115,104,10,102,97,108,108,10,97,115,107,32,42,32,48,32,57,57,10])==[97,108,108,10])=true:=(by decide +kernel)
 refine RG.eqv (v:=.bool true) AA ((Cv (Aa [97,100,100,32,97,61,112,32,49,10,97,100,100,32,97,61,112,32,45,49,32,49,10,109,101,114,103,101,32,48,10,102,108,117,115,104,10,102,97,108,108,10,97,115,107,32,42,32,48,32,57,57,10]) [97,108,108,10]).trans (AG ai))<|.r 3<|RG.C0 (Aj long (Z.mg 1 0) (by have q1:LsO E∧E.length≤2000:=‹_›; (exact fun h=>absurd h AB)) (by have q1:LsO E∧E.length≤2000:=‹_›; omega)) Z fun w Z=>?_
 have aj:((Aa long)==[116,111,111,32,108,111,110,103,10])=true:=(by (rw [Oy AB]; exact beq_self_eq_true QI))
 exact RG.eqv (v:=.bool true) AA ((Cv (Aa long) [116,111,111,32,108,111,110,103,10]).trans (AG aj))<|.r 2<|.d<|T.rt func5 results5 (.bool true) ⟨(AG AF),Z.xt⟩
end Go.Proofs.YtckdhcbbgmiccaaGreatDoor
