/- Rules of a walk over what it knows of memory, third part: calls, drawing regions, loops, results; the shapes of the program's types. No conditions. -/
import Derived.Test.YtckdhcbbgmiccaaGreatWxzMem
set_option linter.unusedVariables false
set_option linter.unusedSimpArgs false
namespace Go.Proofs.YtckdhcbbgmiccaaGreat
section
variable {P:Program} {S:Nat→Prop} {n m:Nat} {K L:Env→World→Prop} {ops:Array Oper} {j:Nat} {l:List Nat} {e:Env}
variable {κ:Cx} {ρ:Option Rg} {Φ Φ':List Ob} {Ψ Ψ':List Fz} {Θ Θ':List (Nat × Nat × List Value)} {w w':World} {α:Type} [Rep α] {xs ys:List α} {x y:α} {o o':Ob} {g i r:Nat}
theorem RK {b:Nat}(h:Chg (ins [b]) w w'):Chg (one b) w w':=h.Bu fun _ _ h=>List.mem_singleton.1 h
theorem St.rm (Z:St κ ρ Φ Ψ Θ w) (g i q:Nat) (h:Ψ[q]? = some ⟨fzG Ψ q,fzL Ψ q,.rep (fzA Ψ q) (fzC Ψ q) xs⟩:=by kernel_rfl) (hg:gle (fzG Ψ q) g=true:=by kernel_rfl) (hi:Φ[i]?.isSome=true:=by kernel_rfl) :
 RepS w (nin (nin (κ.g g) (bl Φ)) [obB Φ i]) (fzA Ψ q) xs.length (fzC Ψ q) xs :=
 (Z.mg g q h hg).Bu fun b _ hb=>⟨hb,fun hm=>by
  obtain ⟨o,ho⟩:=Option.isSome_iff_exists.1 hi
  have:obB Φ i=o.b:=by unfold obB; rw [ho]
  rw [this] at hm
  exact hb.2 (List.mem_singleton.1 hm▸FZ ho)⟩
end
end Go.Proofs.YtckdhcbbgmiccaaGreat
