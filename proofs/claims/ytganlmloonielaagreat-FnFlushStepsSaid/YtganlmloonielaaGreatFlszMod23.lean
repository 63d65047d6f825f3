/- Of two rows of one time the last one is told: the plain law. -/
import Derived.Test.YtganlmloonielaaGreatFlszMod20
set_option linter.unusedVariables false
set_option linter.unusedSimpArgs false
namespace Go.Proofs.YtganlmloonielaaGreat
theorem foldP_blk {id : Int} : ∀ (ps : List Prt) (o : List Row), (∀ p ∈ ps, PrtI p) → Blk o → Blk (ps.foldl (rowsP id) o) := by
 intro ps
 induction ps with
 | nil => intro o _ h; exact h
 | cons p ps ih => intro o h ho; exact ih _ (fun q hq => h q (by simp [hq])) (ho.merge ((h p (by simp)).of id))
theorem foldM_blk {id : Int} : ∀ (mem : List Smp) (o : List Row), (∀ m ∈ mem, rowOk m.row = true) → Blk o → Blk (mem.foldl (rowsM id) o) := by
 intro mem
 induction mem with
 | nil => intro o _ h; exact h
 | cons m ms ih =>
   intro o h ho
   refine ih _ (fun q hq => h q (by simp [hq])) ?_
   unfold rowsM
   split
   ·exact ho.put (h m (by simp))
   ·exact ho
theorem StoI.blk {s : Sto} (h : StoI s) (id : Int) : Blk (rowsOf s id) := foldM_blk _ _ (fun m hm => (h.mem m hm).2.2) (foldP_blk _ _ h.part Blk.nil)
end Go.Proofs.YtganlmloonielaaGreat
namespace Go.Proofs.YtganlmloonielaaGreat
section
variable {b : List Row} {r : Row}
theorem bok (h : blockOk b = true) : b.length ≤ 24 := by
 unfold blockOk at h
 simp only [Bool.and_eq_true, decide_eq_true_eq] at h
 exact h.2
theorem Blk.bok (h : Blk b) (h2 : b.length ≤ 24) : blockOk b = true := by
 unfold blockOk
 simp only [Bool.and_eq_true, decide_eq_true_eq]
 exact ⟨h, h2⟩
end
end Go.Proofs.YtganlmloonielaaGreat
