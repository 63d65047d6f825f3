/- Of two rows of one time the last one is told: the plain law. -/
import Derived.Test.YtganlmloonielaaGreatTazMod20
set_option linter.unusedVariables false
set_option linter.unusedSimpArgs false
namespace Go.Proofs.YtganlmloonielaaGreat
theorem Pn {id:Int}:∀ (ps:List Prt) (o:List Row),(∀ p∈ps,PrtI p)→Blk o→Blk (ps.foldl (CZ id) o):=by
 intro ps
 induction ps with
 | nil=>intro o _ h; exact h
 | cons p ps ih=>intro o h ho; exact ih _ (fun q hq=>h q (by simp [hq])) (ho.merge ((h p (by simp)).of id))
theorem Po {id:Int}:∀ (mem:List Smp) (o:List Row),(∀ m∈mem,Bw m.row=true)→Blk o→Blk (mem.foldl (Cg id) o):=by
 intro mem
 induction mem with
 | nil=>intro o _ h; exact h
 | cons m ms ih =>
   intro o h ho
   refine ih _ (fun q hq=>h q (by simp [hq])) ?_
   unfold Cg
   split
   ·exact ho.put (h m (by simp))
   ·exact ho
theorem StoI.blk {s:Sto} (h:StoI s) (id:Int):Blk (rowsOf s id):=Po _ _ (fun m hm=>(h.mem m hm).2.2) (Pn _ _ h.part Blk.nil)
end Go.Proofs.YtganlmloonielaaGreat
namespace Go.Proofs.YtganlmloonielaaGreat
section
variable {b:List Row} {r:Row}
theorem bok (h:BE b=true):b.length≤24:=by
 unfold BE at h
 simp only [AR,decide_eq_true_eq] at h
 exact h.2
theorem Blk.bok (h:Blk b) (h2:b.length≤24):BE b=true:=by
 unfold BE
 simp only [AR,decide_eq_true_eq]
 exact ⟨h,h2⟩
end
end Go.Proofs.YtganlmloonielaaGreat
