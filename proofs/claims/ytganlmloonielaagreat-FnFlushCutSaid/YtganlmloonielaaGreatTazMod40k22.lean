/- Blocks looked up by times; flushing and merging change nothing that is told: plain laws. -/
import Derived.Test.YtganlmloonielaaGreatTazMod10k23
import Derived.Test.YtganlmloonielaaGreatTazMod40k25
set_option linter.unusedVariables false
set_option linter.unusedSimpArgs false
namespace Go.Proofs.YtganlmloonielaaGreat
def DS (mem:List Smp) (n:Nat):List (List Row):=(List.range n).map (fun (i:Nat)=>rowsOf (ED mem) ((i:Int)+1))
theorem Gd (mem:List Smp) (n:Nat):(DS mem n).length=n:=by simp [DS]
theorem Pe (mem:List Smp) (m:Smp) (h:1≤m.id∧m.id≤6):DS (mem++[m]) 6=GJ (DS mem 6) m:=by
 have key:∀ id:Int,rowsOf (ED (mem++[m])) id=Cg id (rowsOf (ED mem) id) m:=fun id=>by
  unfold rowsOf ED
  simp only [List.foldl_append,List.foldl_cons,List.foldl_nil]
 refine List.ext_getElem? (fun i=>?_)
 unfold GJ
 rw [List.getElem?_set]
 by_cases hi:i< 6
 ·have e:∀ mem:List Smp,(DS mem 6)[i]? = some (rowsOf (ED mem) ((i:Int)+1)):=fun mem=>by unfold DS; rw [List.getElem?_map,List.getElem?_range hi]; rfl
  rw [e,key]
  by_cases h2:(m.id - 1).toNat=i
  ·rw [if_pos h2,if_pos (by rw [Gd]; omega),List.getD_eq_getElem?_getD,h2,e]
   unfold Cg
   rw [if_pos (by simp; omega)]
   rfl
  ·rw [if_neg h2,e]
   unfold Cg
   rw [if_neg (by simp; omega)]
 ·rw [List.getElem?_eq_none (by rw [Gd]; omega),if_neg AB,List.getElem?_eq_none (by rw [Gd]; omega)]
theorem S6 {mem:List Smp} (h:∀ m∈mem,1≤m.id∧m.id≤6):mem.foldl GJ [[],[],[],[],[],[]]=DS mem 6:=by
 have key:∀ (ms pre:List Smp),(∀ m∈ms,1≤m.id∧m.id≤6)→ms.foldl GJ (DS pre 6)=DS (pre++ms) 6:=by
  intro ms
  induction ms with
  | nil=>intro pre _; simp
  | cons m ms ih =>
    intro pre h
    rw [List.foldl_cons,← Pe pre m (h m (by simp)),ih (pre++[m]) (fun q hq=>h q (by simp [hq]))]
    simp
 have:=key mem [] h
 rw [List.nil_append] at this
 rw [← this]
 rfl
theorem HU {mem:List Smp} (h:∀ m∈mem,1≤m.id∧m.id≤6):BK mem=DI (DS mem 6):=by unfold BK; rw [S6 h]
end Go.Proofs.YtganlmloonielaaGreat
