/- Steps alike: plain laws. -/
import Derived.Test.YtganlmloonielaaGreatTazMod42
set_option linter.unusedVariables false
set_option linter.unusedSimpArgs false
namespace Go.Proofs.YtganlmloonielaaGreat
theorem T0 {α:Type} [BEq α] [LawfulBEq α] {a b:List α} {k:Nat} {x y:α} (h:a.drop k=b.drop k↔a=b) (ha:a.drop k=x::a.drop (k+1)) (hb:b.drop k=y::b.drop (k+1)) (e:(x==y)=true):a.drop (k+1)=b.drop (k+1)↔a=b:=by
 rw [← h,ha,hb,eq_of_beq e]
 simp
theorem T1 {α:Type} [BEq α] [LawfulBEq α] {a b:List α} {k:Nat} {x y:α} (h:a.drop k=b.drop k↔a=b) (ha:a.drop k=x::a.drop (k+1)) (hb:b.drop k=y::b.drop (k+1)) (e:(x==y)=false):a≠b:=fun e2=>by
 have:=h.2 e2
 rw [ha,hb,List.cons.injEq] at this
 exact beq_eq_false_iff_ne.1 e this.1
end Go.Proofs.YtganlmloonielaaGreat
