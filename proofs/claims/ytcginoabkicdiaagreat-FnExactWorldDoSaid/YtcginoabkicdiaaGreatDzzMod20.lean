/- Sorting by insertion: rules, the order of tags, what a round keeps. No conditions. -/
import Derived.Test.YtcginoabkicdiaaGreatDzzMod16
import Derived.Test.YtcginoabkicdiaaGreatChecked
import Derived.Lib.Strings
import Derived.Lib.Slices
import Derived.Lib.Small
import Derived.Lib.Walk
import Derived.Lib.BitFns
set_option linter.unusedVariables false
set_option linter.unusedSimpArgs false
namespace Go.Proofs.YtcginoabkicdiaaGreat
section
variable {P:Program} {S:Nat→Prop} {n m:Nat} {L:Env→World→Prop} {ops:Array Oper} {l:List Nat} {e:Env} {w:World}
theorem GE.OI {i:Nat}{t':TypeId}{b o:Nat}{cs:List Value}(k:Nat) (vs:List Value) (hc:Has w ⟨b,o,none⟩ cs) (h:loadAt n ops i e=some (t',⟨b,o+k,none⟩)) (hs:F3 P t' vs.length=true) (hv:(cs.drop k).take vs.length=vs)
 (H:∀ w1,Ext w w1→GA P S n m L ops (i::l) (Ag e (Ad ops i).dst (.agg vs.toArray)) w1):GE P S n m L ops l i e w:=fun w1 hx=>by
 rw [(run_load (P:=P) (w:=w1) h ((hc.ext hx).OH k vs hs hv)).2]
 exact ⟨Chg.refl S _,H w1 hx⟩
theorem GE.G6 {α:Type}[Rep α] {i r t N c q k:Nat}{F:Nat→Prop}{xs:List α}{t':TypeId}{x:α}{cs:List Value}{v:Value}(x':α) (ho:Own w r t F N c xs) (hx:xs[q]? = some x)
 (hh:Has w ⟨r,0+q * Rep.sz α,none⟩ cs) (hr:Rep.rep w (fun b=>F b∧b≠r) x' (Ay cs k v.cells.toList)) (h:storeAt n ops i e=some (t',⟨r,0+q * Rep.sz α+k,none⟩,v)) (hl:Nat.beq cs.length (Rep.sz α)=true)
 (hs:(Da P t' v.cells.size&&Nat.ble (k+v.cells.size) cs.length&&v.cells.toList.all Cy)=true)
 (H:∀ w1,Ext w w1→∀ w2,Own w2 r t F N c (xs.set q x')→Chg (Go.Proofs.YtcginoabkicdiaaGreat.one r) w1 w2→w2.heap.size=w1.heap.size→Chg S w1 w2∧GA P S n m L ops (i::l) (Ag e (Ad ops i).dst undef) w2):GE P S n m L ops l i e w:=fun w1 hx1=>by
 rw [Nat.zero_add] at hh h
 have hr1:Rep.rep w1 (fun b=>F b∧b≠r) x' (Ay cs k v.cells.toList):=Rep.frame hr (fun b hb hF=>⟨hF,hx1.block hb⟩)
 obtain ⟨w2,hrun,ho',hx',hsz⟩:=(ho.ext hx1).store (P:=P) (t':=t') (k:=k) hx (hh.ext hx1) (Nat.eq_of_beq_eq_true hl) hs hr1
 rw [Fc h hrun]
 obtain ⟨h1,h2⟩:=H w1 hx1 w2 ho' hx' hsz
 exact ⟨h1,h2⟩
end
theorem Own.ZN {α:Type}[Rep α] {w:World}{r t n c:Nat}{F:Nat→Prop}{xs:List α}(h:Own w r t F n c xs):Own w r t (nin F [r]) n c xs :=
 ⟨h.len,h.le,h.cap,h.row,fun i x hi=>by
  obtain ⟨cs,h1,h2⟩:=h.elem i x hi
  exact ⟨cs,Rep.frame h1 (fun b _ hF=>⟨⟨⟨hF.1,by simp; exact hF.2⟩,hF.2⟩,rfl⟩),h2⟩⟩
theorem Own.XO {α:Type}[Rep α] {w:World}{r t n c:Nat}{F:Nat→Prop}{xs:List α}(h:Own w r t (nin F [r]) n c xs):Own w r t F n c xs:=h.Bj fun _ _ hF=>hF.1
theorem Qj (a b:UInt8) (x y:Str):Bh (a::x) (b::y)=(decide (a< b) || a==b&&Bh x y):=rfl
theorem Kb:∀ (x y z:Str),Bh x y=true→Bh y z=true→Bh x z=true:=by
 intro x
 induction x with
 | nil =>
   intro y z h1 h2
   cases z with
   | nil=>cases y <;> simp [Bh,Op.bytesLess] at h2
   | cons=>rfl
 | cons a x ih =>
   intro y z h1 h2
   cases y with
   | nil=>simp [Bh,Op.bytesLess] at h1
   | cons b y =>
     cases z with
     | nil=>simp [Bh,Op.bytesLess] at h2
     | cons c z =>
       rw [Qj] at h1 h2 ⊢
       simp only [Bool.or_eq_true,decide_eq_true_eq,AW,beq_iff_eq] at h1 h2 ⊢
       rcases h1 with h1 | ⟨h1,h3⟩
       ·rcases h2 with h2 | ⟨h2,h4⟩
        ·left
         have g1:=UInt8.lt_iff_toNat_lt.1 h1
         have g2:=UInt8.lt_iff_toNat_lt.1 h2
         exact UInt8.lt_iff_toNat_lt.2 AB
        ·left; rw [← h2]; exact h1
       ·rcases h2 with h2 | ⟨h2,h4⟩
        ·left; rw [h1]; exact h2
        ·right; exact ⟨h1.trans h2,ih y z h3 h4⟩
theorem H6 {x y:Str}(h1:Bh x y=false) (h2:Bh y x=false):x=y:=by
 have:=Tj x y
 unfold Gm at this
 unfold Bh at h1 h2 this
 rw [h1,h2] at this
 simpa using this
theorem D4 {a b c:Tag}(h1:CM a b=true) (h2:CM b c=true):CM a c=true:=by
 unfold CM at *
 simp only [Bool.or_eq_true,AW,beq_iff_eq] at *
 rcases h1 with h1 | ⟨h1,h3⟩
 ·rcases h2 with h2 | ⟨h2,h4⟩
  ·exact .inl (Kb _ _ _ h1 h2)
  ·exact .inl (h2▸h1)
 ·rcases h2 with h2 | ⟨h2,h4⟩
  ·exact .inl (h1▸h2)
  ·exact .inr ⟨h1.trans h2,Kb _ _ _ h3 h4⟩
theorem H7 (a:Tag):CM a a=false:=by unfold CM; simp [Hy]
theorem Jy {a b:Tag}(h1:CM a b=false) (h2:CM b a=false):a=b:=by
 unfold CM at h1 h2
 simp only [Bool.or_eq_false_iff,Bool.and_eq_false_iff] at h1 h2
 have hk:=H6 h1.1 h2.1
 have hv:a.val=b.val:=by
  rcases h1.2 with h | h
  ·rw [hk] at h; simp at h
  ·rcases h2.2 with h' | h'
   ·rw [hk] at h'; simp at h'
   ·exact H6 h h'
 cases a; cases b
 simp only at hk hv
 rw [hk,hv]
theorem LR (a b:Pst):Qi a b< 0↔CM a.tag b.tag=true:=by
 unfold Qi EV CM
 cases h1:Bh a.tag.key b.tag.key with
 | true=>simp [orF]
 | false =>
   cases h2:Bh b.tag.key a.tag.key with
   | true =>
     have:¬ a.tag.key=b.tag.key:=fun e=>by rw [e,Hy] at h2; cases h2
     simp [orF,this]
   | false =>
     have e:=H6 h1 h2
     cases h3:Bh a.tag.val b.tag.val with
     | true=>simp [orF,e]
     | false =>
       cases h4:Bh b.tag.val a.tag.val <;> simp [orF]
def Le (a b:Pst):Prop:=¬ Qi b a< 0
theorem Le.trans {a b c:Pst}(h1:Le a b) (h2:Le b c):Le a c:=by
 unfold Le at *
 rw [LR] at *
 intro h
 cases h3:CM b.tag c.tag with
 | true=>exact h1 (D4 h3 h)
 | false =>
   have e:=Jy h3 (by simpa using h2)
   rw [← e] at h
   exact h1 h
end Go.Proofs.YtcginoabkicdiaaGreat
