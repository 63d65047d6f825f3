/- Blocks looked up by times; flushing and merging change nothing that is told: plain laws. -/
import Derived.Test.YtganlmloonielaaGreatTazMod20
set_option linter.unusedVariables false
set_option linter.unusedSimpArgs false
namespace Go.Proofs.YtganlmloonielaaGreat
theorem DM:∀ (bs:List (List Row)) (i:Nat) (b:List Row),BY i (bs++[b])=if b.length > 0 then ((BY i bs).1++[(i:Int)+bs.length+1],(BY i bs).2++[b]) else BY i bs:=by
 intro bs
 induction bs with
 | nil=>intro i b; simp [BY]
 | cons x xs ih =>
   intro i b
   rw [List.cons_append]
   have h1:=ih (i+1) b
   unfold BY
   rw [h1]
   by_cases hb:b.length > 0
   ·rw [if_pos hb,if_pos hb]
    simp only [List.length_cons]
    split <;> simp <;> omega
   ·rw [if_neg hb,if_neg hb]
end Go.Proofs.YtganlmloonielaaGreat
