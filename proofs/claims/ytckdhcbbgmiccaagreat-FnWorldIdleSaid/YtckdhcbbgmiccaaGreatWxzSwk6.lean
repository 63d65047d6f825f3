/- Rules of a walk over what it knows of memory, third part: calls, drawing regions, loops, results; the shapes of the program's types. No conditions. -/
import Derived.Test.YtckdhcbbgmiccaaGreatWxzSwk8
set_option linter.unusedVariables false
set_option linter.unusedSimpArgs false
namespace Go.Proofs.YtckdhcbbgmiccaaGreat
section
variable {P:Program} {S:Nat→Prop} {n m:Nat} {K L:Env→World→Prop} {ops:Array Oper} {j:Nat} {l:List Nat} {e:Env}
variable {κ:Cx} {ρ:Option Rg} {Φ Φ':List Ob} {Ψ Ψ':List Fz} {Θ Θ':List (Nat × Nat × List Value)} {w w':World} {α:Type} [Rep α] {xs ys:List α} {x y:α} {o o':Ob} {g i r:Nat}
theorem St.ng (_:St κ ρ Φ Ψ Θ w) (g:Nat):RepS w (nin (κ.g g) (bl Φ)) none 0 0 ([]:List α):=RepS.BO _ _ none 0 AE
end
end Go.Proofs.YtckdhcbbgmiccaaGreat
