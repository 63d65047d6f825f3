/- Sorting by insertion: rules, the order of tags, what a round keeps. No conditions. -/
import Derived.Test.YtcginoabkicdiaaGreatPzzMod16
import Derived.Test.YtcginoabkicdiaaGreatChecked
import Derived.Lib.Strings
import Derived.Lib.Slices
import Derived.Lib.Small
import Derived.Lib.Walk
import Derived.Lib.BitFns
set_option linter.unusedVariables false
set_option linter.unusedSimpArgs false
namespace Go.Proofs.YtcginoabkicdiaaGreat
section
variable {P:Program} {S:Nat→Prop} {n m:Nat} {L:Env→World→Prop} {ops:Array Oper} {l:List Nat} {e:Env} {w:World}
theorem GE.Mi {i:Nat}{t':TypeId}{b o:Nat}{cs:List Value}(k:Nat) (vs:List Value) (hc:Has w ⟨b,o,none⟩ cs) (h:loadAt n ops i e=some (t',⟨b,o+k,none⟩)) (hs:FN P t' vs.length=true) (hv:(cs.drop k).take vs.length=vs)
 (H:∀ w1,Ext w w1→GA P S n m L ops (i::l) (Af e (Ac ops i).dst (.agg vs.toArray)) w1):GE P S n m L ops l i e w:=fun w1 hx=>by
 rw [(run_load (P:=P) (w:=w1) h ((hc.ext hx).Mh k vs hs hv)).2]
 exact ⟨Chg.refl S _,H w1 hx⟩
theorem GE.Gc {α:Type}[Rep α] {i r t N c q k:Nat}{F:Nat→Prop}{xs:List α}{t':TypeId}{x:α}{cs:List Value}{v:Value}(x':α) (ho:Own w r t F N c xs) (hx:xs[q]? = some x)
 (hh:Has w ⟨r,0+q * Rep.sz α,none⟩ cs) (hr:Rep.rep w (fun b=>F b∧b≠r) x' (Av cs k v.cells.toList)) (h:storeAt n ops i e=some (t',⟨r,0+q * Rep.sz α+k,none⟩,v)) (hl:Nat.beq cs.length (Rep.sz α)=true)
 (hs:(DM P t' v.cells.size&&Nat.ble (k+v.cells.size) cs.length&&v.cells.toList.all Cn)=true)
 (H:∀ w1,Ext w w1→∀ w2,Own w2 r t F N c (xs.set q x')→Chg (Go.Proofs.YtcginoabkicdiaaGreat.one r) w1 w2→w2.heap.size=w1.heap.size→Chg S w1 w2∧GA P S n m L ops (i::l) (Af e (Ac ops i).dst undef) w2):GE P S n m L ops l i e w:=fun w1 hx1=>by
 rw [Nat.zero_add] at hh h
 have hr1:Rep.rep w1 (fun b=>F b∧b≠r) x' (Av cs k v.cells.toList):=Rep.frame hr (fun b hb hF=>⟨hF,hx1.block hb⟩)
 obtain ⟨w2,hrun,ho',hx',hsz⟩:=(ho.ext hx1).store (P:=P) (t':=t') (k:=k) hx (hh.ext hx1) (Nat.eq_of_beq_eq_true hl) hs hr1
 rw [E8 h hrun]
 obtain ⟨h1,h2⟩:=H w1 hx1 w2 ho' hx' hsz
 exact ⟨h1,h2⟩
end
theorem Own.Wy {α:Type}[Rep α] {w:World}{r t n c:Nat}{F:Nat→Prop}{xs:List α}(h:Own w r t F n c xs):Own w r t (nin F [r]) n c xs :=
 ⟨h.len,h.le,h.cap,h.row,fun i x hi=>by
  obtain ⟨cs,h1,h2⟩:=h.elem i x hi
  exact ⟨cs,Rep.frame h1 (fun b _ hF=>⟨⟨⟨hF.1,by simp; exact hF.2⟩,hF.2⟩,rfl⟩),h2⟩⟩
theorem Own.U1 {α:Type}[Rep α] {w:World}{r t n c:Nat}{F:Nat→Prop}{xs:List α}(h:Own w r t (nin F [r]) n c xs):Own w r t F n c xs:=h.Bd fun _ _ hF=>hF.1
theorem PE (a b:UInt8) (x y:Str):Bk (a::x) (b::y)=(decide (a< b) || a==b&&Bk x y):=rfl
theorem Jc:∀ (x y z:Str),Bk x y=true→Bk y z=true→Bk x z=true:=by
 intro x
 induction x with
 | nil =>
   intro y z h1 h2
   cases z with
   | nil=>cases y <;> simp [Bk,Op.bytesLess] at h2
   | cons=>rfl
 | cons a x ih =>
   intro y z h1 h2
   cases y with
   | nil=>simp [Bk,Op.bytesLess] at h1
   | cons b y =>
     cases z with
     | nil=>simp [Bk,Op.bytesLess] at h2
     | cons c z =>
       rw [PE] at h1 h2 ⊢
       simp only [Bool.or_eq_true,decide_eq_true_eq,AW,beq_iff_eq] at h1 h2 ⊢
       rcases h1 with h1 | ⟨h1,h3⟩
       ·rcases h2 with h2 | ⟨h2,h4⟩
        ·left
         have g1:=UInt8.lt_iff_toNat_lt.1 h1
         have g2:=UInt8.lt_iff_toNat_lt.1 h2
         exact UInt8.lt_iff_toNat_lt.2 AB
        ·left; rw [← h2]; exact h1
       ·rcases h2 with h2 | ⟨h2,h4⟩
        ·left; rw [h1]; exact h2
        ·right; exact ⟨h1.trans h2,ih y z h3 h4⟩
theorem HI {x y:Str}(h1:Bk x y=false) (h2:Bk y x=false):x=y:=by
 have:=Rn x y
 unfold GH at this
 unfold Bk at h1 h2 this
 rw [h1,h2] at this
 simpa using this
theorem EV {a b c:Tag}(h1:Dj a b=true) (h2:Dj b c=true):Dj a c=true:=by
 unfold Dj at *
 simp only [Bool.or_eq_true,AW,beq_iff_eq] at *
 rcases h1 with h1 | ⟨h1,h3⟩
 ·rcases h2 with h2 | ⟨h2,h4⟩
  ·exact .inl (Jc _ _ _ h1 h2)
  ·exact .inl (h2▸h1)
 ·rcases h2 with h2 | ⟨h2,h4⟩
  ·exact .inl (h1▸h2)
  ·exact .inr ⟨h1.trans h2,Jc _ _ _ h3 h4⟩
theorem I8 (a:Tag):Dj a a=false:=by unfold Dj; simp [I2]
theorem I9 {a b:Tag}(h1:Dj a b=false) (h2:Dj b a=false):a=b:=by
 unfold Dj at h1 h2
 simp only [Bool.or_eq_false_iff,Bool.and_eq_false_iff] at h1 h2
 have hk:=HI h1.1 h2.1
 have hv:a.val=b.val:=by
  rcases h1.2 with h | h
  ·rw [hk] at h; simp at h
  ·rcases h2.2 with h' | h'
   ·rw [hk] at h'; simp at h'
   ·exact HI h h'
 cases a; cases b
 simp only at hk hv
 rw [hk,hv]
theorem IK (a b:Pst):LW a b< 0↔Dj a.tag b.tag=true:=by
 unfold LW EH Dj
 cases h1:Bk a.tag.key b.tag.key with
 | true=>simp [orF]
 | false =>
   cases h2:Bk b.tag.key a.tag.key with
   | true =>
     have:¬ a.tag.key=b.tag.key:=fun e=>by rw [e,I2] at h2; cases h2
     simp [orF,this]
   | false =>
     have e:=HI h1 h2
     cases h3:Bk a.tag.val b.tag.val with
     | true=>simp [orF,e]
     | false =>
       cases h4:Bk b.tag.val a.tag.val <;> simp [orF]
def Le (a b:Pst):Prop:=¬ LW b a< 0
theorem Le.of_lt {a b:Pst}(h:LW a b< 0):Le a b:=fun h2=>by
 rw [IK] at h h2
 have:=EV h h2
 rw [I8] at this
 cases this
theorem Le.trans {a b c:Pst}(h1:Le a b) (h2:Le b c):Le a c:=by
 unfold Le at *
 rw [IK] at *
 intro h
 cases h3:Dj b.tag c.tag with
 | true=>exact h1 (EV h3 h)
 | false =>
   have e:=I9 h3 (by simpa using h2)
   rw [← e] at h
   exact h1 h
def Kg (xs:List Pst) (i j:Nat):Prop :=
 j≤i∧i< xs.length∧(xs.take j++(xs.take (i+1)).drop (j+1)).Pairwise Le∧∀ x,xs[j]? = some x→∀ y∈(xs.take (i+1)).drop (j+1),Le x y
theorem Vh {α:Type}{xs:List α}{j:Nat}{x y:α}(hx:xs[j]? = some x) (hy:xs[j - 1]? = some y) (hj:0< j):∃ A D,xs=A++y::x::D∧A.length=j - 1:=by
 refine ⟨xs.take (j - 1),xs.drop (j+1),?_,?_⟩
 ·have h1:=AZ hy
  rw [show j - 1+1=j by omega,AZ hx] at h1
  rw [← h1,List.take_append_drop]
 ·obtain ⟨h1,_⟩:=List.getElem?_eq_some_iff.1 hy
  rw [List.length_take]; omega
theorem swap_eq {α:Type}(A D:List α) (x y:α):((A++y::x::D).set (A.length+1) y).set A.length x=A++x::y::D:=by
 simp
theorem Kg.step {xs:List Pst}{i j:Nat}{x y:Pst}(h:Kg xs i j) (hj:0< j) (hx:xs[j]? = some x) (hy:xs[j - 1]? = some y) (hc:LW x y< 0):Kg ((xs.set j y).set (j - 1) x) i (j - 1):=by
 obtain ⟨h1,h2,h3,h4⟩:=h
 have h5:=h4 x hx
 obtain ⟨A,D,rfl,hA⟩:=Vh hx hy hj
 have hj2:j=A.length+1:=by omega
 subst hj2
 have e1:(A++y::x::D).take (A.length+1)=A++[y]:=by rw [List.take_length_add_append]; rfl
 have e2:∀ a b:Pst,((A++a::b::D).take (i+1)).drop (A.length+1+1)=D.take (i - A.length - 1):=by
  intro a b
  rw [List.drop_take,show (A++a::b::D).drop (A.length+1+1)=D from (List.drop_length_add_append (l₁:=A) (l₂:=a::b::D) (i:=2))]
  congr 1
  omega
 have e3:((A++x::y::D).take (i+1)).drop (A.length+1)=y::D.take (i - A.length - 1):=by
  rw [List.drop_take,show (A++x::y::D).drop (A.length+1)=y::D from (List.drop_length_add_append (l₁:=A) (l₂:=x::y::D) (i:=1)),show i+1 - (A.length+1)=(i - A.length - 1)+1 by omega]
  rfl
 rw [e1,e2] at h3
 rw [e2] at h5
 rw [Nat.add_sub_cancel,swap_eq]
 refine ⟨by omega,by simpa using h2,?_,?_⟩
 ·rw [e3,show (A++x::y::D).take A.length=A by simp]
  simpa using h3
 ·intro x' hx' z hz
  rw [e3] at hz
  have:x'=x:=by
   have hg:(A++x::y::D)[A.length]? = some x:=by simp
   rw [hg] at hx'
   cases hx'
   rfl
  subst this
  rcases List.mem_cons.1 hz with rfl | hz
  ·exact Le.of_lt hc
  ·exact h5 z hz
theorem Kg.exit {xs:List Pst}{i j:Nat}(h:Kg xs i j) (hj:j=0∨∃ x y,xs[j]? = some x∧xs[j - 1]? = some y∧¬ LW x y< 0):(xs.take (i+1)).Pairwise Le:=by
 obtain ⟨h1,h2,h3,h4⟩:=h
 have hjl:j< xs.length:=by omega
 have hx:xs[j]? = some xs[j]:=AU hjl
 have h5:=h4 _ hx
 have e:xs.take (i+1)=xs.take j++xs[j]::(xs.take (i+1)).drop (j+1):=by
  have h6:(xs.take (i+1)).take j=xs.take j:=by rw [List.take_take,Nat.min_eq_left AB]
  have h7:(xs.take (i+1))[j]? = some xs[j]:=by rw [List.getElem?_take,if_pos AB]; exact hx
  rw [← h6,← AZ h7,List.take_append_drop]
 rw [e]
 rw [List.pairwise_append] at h3 ⊢
 obtain ⟨g1,g2,g3⟩:=h3
 have key:∀ a∈xs.take j,Le a xs[j]:=by
  intro a ha
  rcases hj with rfl | ⟨x,y,hx',hy,hc⟩
  ·simp at ha
  ·have:x=xs[j]:=by rw [hx] at hx'; cases hx'; rfl
   subst this
   by_cases hj0:j=0
   ·subst hj0; simp at ha
   ·have hyl:xs.take j=xs.take (j - 1)++[y]:=by
     obtain ⟨k,rfl⟩:∃ k,j=k+1:=⟨j - 1,by omega⟩
     rw [Nat.add_sub_cancel] at hy
     rw [List.take_add_one,hy]
     simp
    have hyc:Le y xs[j]:=hc
    rw [hyl] at ha g1
    rcases List.mem_append.1 ha with ha | ha
    ·exact Le.trans ((List.pairwise_append.1 g1).2.2 a ha y AD) hyc
    ·simp at ha; subst ha; exact hyc
 refine ⟨g1,List.pairwise_cons.2 ⟨h5,g2⟩,fun a ha b hb=>?_⟩
 rcases List.mem_cons.1 hb with rfl | hb
 ·exact key a ha
 ·exact g3 a ha b hb
end Go.Proofs.YtcginoabkicdiaaGreat
