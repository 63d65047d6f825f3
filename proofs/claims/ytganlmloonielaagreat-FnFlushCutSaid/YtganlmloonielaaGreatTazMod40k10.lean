/- Blocks looked up by times; flushing and merging change nothing that is told: plain laws. -/
import Derived.Test.YtganlmloonielaaGreatTazOpsk11
import Derived.Test.YtganlmloonielaaGreatTazMod40k22
set_option linter.unusedVariables false
set_option linter.unusedSimpArgs false
namespace Go.Proofs.YtganlmloonielaaGreat
theorem Pd (mem:List Smp) (n:Nat):DS mem (n+1)=DS mem n++[rowsOf (ED mem) ((n:Int)+1)]:=by simp [DS,List.range_succ]
theorem Ot {mem:List Smp} {k:Nat} (hk:1≤k):DS mem (k+1 - 1)=DS mem (k - 1)++[rowsOf (ED mem) (k:Int)]:=by
 rw [show k+1 - 1=(k - 1)+1 by omega,Pd,show ((k - 1:Nat):Int)+1=(k:Int) by omega]
theorem S8 {mem:List Smp} {k:Nat} {a:List Int} (h:a=(BY 0 (DS mem (k - 1))).1) (hk:1≤k) (hl:((rowsOf (ED mem) (k:Int)).length:Int) > 0):a++[(k:Int)]=(BY 0 (DS mem (k+1 - 1))).1:=by
 rw [Ot hk,DM,if_pos AB,h,Gd,show ((0:Nat):Int)+((k - 1:Nat):Int)+1=(k:Int) by omega]
theorem S9 {mem:List Smp} {k:Nat} {a:List Int} (h:a=(BY 0 (DS mem (k - 1))).1) (hk:1≤k) (hl:¬ ((rowsOf (ED mem) (k:Int)).length:Int) > 0):a=(BY 0 (DS mem (k+1 - 1))).1:=by
 rw [Ot hk,DM,if_neg AB,h]
theorem TA {mem:List Smp} {k:Nat} {a:List (List Row)} (h:a=(BY 0 (DS mem (k - 1))).2) (hk:1≤k) (hl:((rowsOf (ED mem) (k:Int)).length:Int) > 0):a++[rowsOf (ED mem) (k:Int)]=(BY 0 (DS mem (k+1 - 1))).2:=by
 rw [Ot hk,DM,if_pos AB,h]
theorem TB {mem:List Smp} {k:Nat} {a:List (List Row)} (h:a=(BY 0 (DS mem (k - 1))).2) (hk:1≤k) (hl:¬ ((rowsOf (ED mem) (k:Int)).length:Int) > 0):a=(BY 0 (DS mem (k+1 - 1))).2:=by
 rw [Ot hk,DM,if_neg AB,h]
theorem Vf {mem:List Smp} {k:Nat} {a:List Int} {b:List (List Row)} (hm:∀ m∈mem,1≤m.id∧m.id≤6) (hk:k=7) (ha:a=(BY 0 (DS mem (k - 1))).1) (hb:b=(BY 0 (DS mem (k - 1))).2):(⟨a,b⟩:Prt)=BK mem:=by
 subst hk ha hb
 rw [HU hm]
 rfl
end Go.Proofs.YtganlmloonielaaGreat
