/- The program's index and store against the specification's: plain laws. -/
import Derived.Test.YtggnnidleedpaaaGreatWpzModk5
import Derived.Test.YtggnnidleedpaaaGreatWpzMod20
open Go.Proofs.Tryz
set_option linter.unusedVariables false
set_option linter.unusedSimpArgs false
namespace Go.Proofs.YtggnnidleedpaaaGreat
theorem NO {s:Sto}{id:Int}(h:Ad s=false∨inR id 1 s.idx.names.length=false):Cw s id=[]:=by
 unfold Cw
 rw [if_neg]
 rintro ⟨h1,h2⟩
 rcases h with h | h
 ·rw [h] at h1; cases h1
 ·rw [h] at h2; cases h2
end Go.Proofs.YtggnnidleedpaaaGreat
namespace Go.Proofs.YtggnnidleedpaaaGreat
set_option maxRecDepth 100000
set_option maxHeartbeats 4000000
variable {w:World} {F:Nat→Prop} {a1 a2 a3 a4:Option Addr} {n1 c1 n2 c2 n3 c3 n4 c4:Nat}
theorem Fe (s:Sto) (id:Int) (h1:RepS w F a1 n1 c1 s.idx.names) (h2:RepS w F a2 n2 c2 s.idx.AY) (h3:RepS w F a3 n3 c3 s.parts) (h4:RepS w F a4 n4 c4 s.mem) (p0:SD s):Calls Tryz.prog 27 [.agg #[.slice a1 n1 c1,.slice a2 n2 c2,.slice a3 n3 c3,.slice a4 n4 c4],.int .i64 id].toArray w (Am fun rv w'=>VL (ge w.heap.size) w' (Cw s id:List Row) rv∧Ext w w'):=by
 cases h1.len
 cases h2.len
 cases h3.len
 cases h4.len
 refine goT func27 ?_
 have Z:=((((St.i0 F w).p h1).p h2).p h3).p h4
 have ac:=h3.max
 have ae:=h4.max
 refine .s<|.g<|RG.Np Z fun ai w Z=>.r 1<|.d<|.s<|.s<|.g<|RG.Ln 0 Z<|RG.C0 (DK s (Z.a 3) (Z.a 2) (Z.a 1) (Z.a 0) p0) Z fun w Z=>?_
 cases af:(Ad s)
 ·exact .r 10<|.d<|.ct<|.s<|.g<|RG.N0 Row 0 Z fun aj w Z=>.r 1<|.d<|T.Rt func27 results27 ⟨Z.rM 0 ([]:List Row) (by rw [NO (.inl ‹_›)]),Z.xt⟩
 refine .r 5<|RG.Lb 0 Z<|.r 1<|RG.C0 (Br id 1 (s.idx.names.length:Int) (F:=all)) Z fun w Z=>?_
 cases E:(inR id 1 (s.idx.names.length:Int))
 ·exact .r 2<|.d<|.ct<|.s<|.g<|RG.N0 Row 0 Z fun ak w Z=>.r 1<|.d<|T.Rt func27 results27 ⟨Z.rM 0 ([]:List Row) (by rw [NO (.inr ‹_›)]),Z.xt⟩
 exact .r 2<|.d<|.cf<|.sk<|.s<|.g<|RG.Ln 0 Z<|.r 1<|RG.CL (Ci s id (Z.a 3) (Z.a 2) (Z.a 1) (Z.a 0) (StoK.of p0 ‹_›).part (StoK.of p0 ‹_›).row (by have:=p0.np; omega) (by have:=p0.nm2; omega)) Z fun al am w Z=>.r 1<|.d<|T.Rt func27 results27 ⟨Z.rL 0 (rowsOf s id) (by rw [Ll ‹_› ‹_›]),Z.xt⟩
end Go.Proofs.YtggnnidleedpaaaGreat
namespace Go.Proofs.YtggnnidleedpaaaGreat
theorem Rj (t:Int):look t []=none:=rfl
theorem Kk {a:List Row}(h:Blk a):Bd [] a=a:=Ki (Blk.nil.merge h) h (fun t=>by rw [Cj t _ Blk.nil h,Rj]; simp)
end Go.Proofs.YtggnnidleedpaaaGreat
