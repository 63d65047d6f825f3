/- Which steps flush: the program's way; plain laws. -/
import Derived.Test.YtganlmloonielaaGreatTazMod40k25
import Derived.Test.YtganlmloonielaaGreatTazMod42
set_option linter.unusedVariables false
set_option linter.unusedSimpArgs false
namespace Go.Proofs.YtganlmloonielaaGreat
def Ej (d:Dsk):Bool:=(d.next==999) || decide ((d.files.length:Int)=20)
theorem TT {d:Dsk} (h:(d.next==999)=true):true=Ej d:=by unfold Ej; rw [h]; rfl
theorem Rs {d:Dsk} (h:d.next=999):true=Ej d:=TT (by simp [h])
theorem TU {d:Dsk} (h:¬ d.next=999):((d.files.length:Int)==20)=Ej d:=by unfold Ej; rw [beq_eq_false_iff_ne.2 h,Bool.false_or]; by_cases e:(d.files.length:Int)=20 <;> simp [e]
theorem O4 {d:Dsk} (h:Ej d=false):¬ d.next=999∧¬ (d.files.length:Int)=20:=by
 unfold Ej at h
 simpa using h
theorem O5 {d:Dsk} (h:Ej d=true):d.next=999∨(d.files.length:Int)=20:=by
 unfold Ej at h
 simpa using h
end Go.Proofs.YtganlmloonielaaGreat
namespace Go.Proofs.YtganlmloonielaaGreat
set_option maxRecDepth 100000
set_option maxHeartbeats 4000000
theorem Fp (d:Dsk) {w:World} {F:Nat→Prop} {a1:Option Addr} {n1 c1:Nat} (h1:RepS w F a1 n1 c1 d.files) {a2:Option Addr} {n2 c2:Nat} (h2:RepS w F a2 n2 c2 d.list) {a3:Option Addr} {n3 c3:Nat} (h3:RepS w F a3 n3 c3 d.names)  : Calls Tryz.prog 52 [.agg #[.slice a1 n1 c1,.slice a2 n2 c2,.slice a3 n3 c3,.int .i64 d.next]].toArray w (As fun rv w'=>rv=.bool (Ej d)∧Ext w w'):=by
 refine goT Tryz.func52 ?_
 obtain ⟨rfl,ab,h1⟩:=h1.tp
 obtain ⟨rfl,ac,h2⟩:=h2.tp
 obtain ⟨rfl,ae,h3⟩:=h3.tp
 refine .s<|.g<|.np 27 [.slice a1 d.files.length c1,.slice a2 d.list.length c2,.slice a3 d.names.length c3,vI d.next] fun af ag O C E W=>?_
 have J:=C
 exact .r 1<|.d<|.s<|.g<|.r 1<|.lb E<|.eq d.next 999 (fun aa=>.r 7<|.d<|.rt Tryz.func52 Tryz.results52 (.bool true) ⟨(congrArg Value.bool (by exact Rs ‹_›)),J⟩) fun aa=>.r 2<|.lb E<|.r 4<|.d<|.rt Tryz.func52 Tryz.results52 (.bool ((d.files.length:Int)==20)) ⟨(congrArg Value.bool (by exact TU ‹_›)),J⟩
end Go.Proofs.YtganlmloonielaaGreat
