/- Sorting by insertion: rules, the order of tags, what a round keeps. No conditions. -/
import Derived.Test.YtggnnidleedpaaaGreatWmzMod16
import Derived.Test.YtggnnidleedpaaaGreatWmzLen
open Go.Proofs.Tryz
set_option linter.unusedVariables false
set_option linter.unusedSimpArgs false
namespace Go.Proofs.YtggnnidleedpaaaGreat
section
variable {P:Program} {S:Nat→Prop} {n m:Nat} {L:Env→World→Prop} {ops:Array Oper} {l:List Nat} {e:Env} {w:World}
theorem GE.Fi {i:Nat}{t':TypeId}{b o:Nat}{cs:List Value}(k:Nat) (vs:List Value) (hc:Has w ⟨b,o,none⟩ cs) (h:loadAt n ops i e=some (t',⟨b,o+k,none⟩)) (hs:Fg P t' vs.length=true) (hv:(cs.drop k).take vs.length=vs)
 (H:∀ w1,Ext w w1→GA P S n m L ops (i::l) (BN e (Aq ops i).dst (.agg vs.toArray)) w1):GE P S n m L ops l i e w:=fun w1 hx=>by
 rw [(run_load (P:=P) (w:=w1) h ((hc.ext hx).Kp k vs hs hv)).2]
 exact ⟨Chg.refl S _,H w1 hx⟩
theorem GE.DQ {α:Type}[Rep α] {i r t N c q k:Nat}{F:Nat→Prop}{xs:List α}{t':TypeId}{x:α}{cs:List Value}{v:Value}(x':α) (ho:Own w r t F N c xs) (hx:xs[q]? = some x)
 (hh:Has w ⟨r,0+q * Rep.sz α,none⟩ cs) (hr:Rep.rep w (fun b=>F b∧b≠r) x' (BQ cs k v.cells.toList)) (h:storeAt n ops i e=some (t',⟨r,0+q * Rep.sz α+k,none⟩,v)) (hl:Nat.beq cs.length (Rep.sz α)=true)
 (hs:(Fh P t' v.cells.size&&Nat.ble (k+v.cells.size) cs.length&&v.cells.toList.all Dr)=true)
 (H:∀ w1,Ext w w1→∀ w2,Own w2 r t F N c (xs.set q x')→Chg (Go.Proofs.YtggnnidleedpaaaGreat.one r) w1 w2→w2.heap.size=w1.heap.size→Chg S w1 w2∧GA P S n m L ops (i::l) (BN e (Aq ops i).dst undef) w2):GE P S n m L ops l i e w:=fun w1 hx1=>by
 rw [Nat.zero_add] at hh h
 have hr1:Rep.rep w1 (fun b=>F b∧b≠r) x' (BQ cs k v.cells.toList):=Rep.frame hr (fun b hb hF=>⟨hF,hx1.block hb⟩)
 obtain ⟨w2,hrun,ho',hx',hsz⟩:=(ho.ext hx1).store (P:=P) (t':=t') (k:=k) hx (hh.ext hx1) (Nat.eq_of_beq_eq_true hl) hs hr1
 rw [IG h hrun]
 obtain ⟨h1,h2⟩:=H w1 hx1 w2 ho' hx' hsz
 exact ⟨h1,h2⟩
end
theorem Own.Nl {α:Type}[Rep α] {w:World}{r t n c:Nat}{F:Nat→Prop}{xs:List α}(h:Own w r t F n c xs):Own w r t (nin F [r]) n c xs :=
 ⟨h.len,h.le,h.cap,h.row,fun i x hi=>by
  obtain ⟨cs,h1,h2⟩:=h.elem i x hi
  exact ⟨cs,Rep.frame h1 (fun b _ hF=>⟨⟨⟨hF.1,by simp; exact hF.2⟩,hF.2⟩,rfl⟩),h2⟩⟩
theorem Own.Lx {α:Type}[Rep α] {w:World}{r t n c:Nat}{F:Nat→Prop}{xs:List α}(h:Own w r t (nin F [r]) n c xs):Own w r t F n c xs:=h.CE fun _ _ hF=>hF.1
theorem Mz (a b:UInt8) (x y:Str):By (a::x) (b::y)=(decide (a< b) || a==b&&By x y):=rfl
theorem IK:∀ (x y z:Str),By x y=true→By y z=true→By x z=true:=by
 intro x
 induction x with
 | nil =>
   intro y z h1 h2
   cases z with
   | nil=>cases y <;> simp [By,Op.bytesLess] at h2
   | cons=>rfl
 | cons a x ih =>
   intro y z h1 h2
   cases y with
   | nil=>simp [By,Op.bytesLess] at h1
   | cons b y =>
     cases z with
     | nil=>simp [By,Op.bytesLess] at h2
     | cons c z =>
       rw [Mz] at h1 h2 ⊢
       simp only [Bool.or_eq_true,decide_eq_true_eq,AW,beq_iff_eq] at h1 h2 ⊢
       rcases h1 with h1 | ⟨h1,h3⟩
       ·rcases h2 with h2 | ⟨h2,h4⟩
        ·left
         have g1:=UInt8.lt_iff_toNat_lt.1 h1
         have g2:=UInt8.lt_iff_toNat_lt.1 h2
         exact UInt8.lt_iff_toNat_lt.2 AB
        ·left; rw [← h2]; exact h1
       ·rcases h2 with h2 | ⟨h2,h4⟩
        ·left; rw [h1]; exact h2
        ·right; exact ⟨h1.trans h2,ih y z h3 h4⟩
theorem Hu {x y:Str}(h1:By x y=false) (h2:By y x=false):x=y:=by
 have:=HE x y
 unfold EV at this
 unfold By at h1 h2 this
 rw [h1,h2] at this
 simpa using this
theorem Fz {a b c:Tag}(h1:D7 a b=true) (h2:D7 b c=true):D7 a c=true:=by
 unfold D7 at *
 simp only [Bool.or_eq_true,AW,beq_iff_eq] at *
 rcases h1 with h1 | ⟨h1,h3⟩
 ·rcases h2 with h2 | ⟨h2,h4⟩
  ·exact .inl (IK _ _ _ h1 h2)
  ·exact .inl (h2▸h1)
 ·rcases h2 with h2 | ⟨h2,h4⟩
  ·exact .inl (h1▸h2)
  ·exact .inr ⟨h1.trans h2,IK _ _ _ h3 h4⟩
theorem KT (a:Tag):D7 a a=false:=by unfold D7; simp [Ho]
theorem KU {a b:Tag}(h1:D7 a b=false) (h2:D7 b a=false):a=b:=by
 unfold D7 at h1 h2
 simp only [Bool.or_eq_false_iff,Bool.and_eq_false_iff] at h1 h2
 have hk:=Hu h1.1 h2.1
 have hv:a.val=b.val:=by
  rcases h1.2 with h | h
  ·rw [hk] at h; simp at h
  ·rcases h2.2 with h' | h'
   ·rw [hk] at h'; simp at h'
   ·exact Hu h h'
 cases a; cases b
 simp only at hk hv
 rw [hk,hv]
theorem LD (a b:Pst):J1 a b< 0↔D7 a.tag b.tag=true:=by
 unfold J1 Gq D7
 cases h1:By a.tag.key b.tag.key with
 | true=>simp [orF]
 | false =>
   cases h2:By b.tag.key a.tag.key with
   | true =>
     have:¬ a.tag.key=b.tag.key:=fun e=>by rw [e,Ho] at h2; cases h2
     simp [orF,this]
   | false =>
     have e:=Hu h1 h2
     cases h3:By a.tag.val b.tag.val with
     | true=>simp [orF,e]
     | false =>
       cases h4:By b.tag.val a.tag.val <;> simp [orF]
def Le (a b:Pst):Prop:=¬ J1 b a< 0
theorem Le.of_lt {a b:Pst}(h:J1 a b< 0):Le a b:=fun h2=>by
 rw [LD] at h h2
 have:=Fz h h2
 rw [KT] at this
 cases this
theorem Le.trans {a b c:Pst}(h1:Le a b) (h2:Le b c):Le a c:=by
 unfold Le at *
 rw [LD] at *
 intro h
 cases h3:D7 b.tag c.tag with
 | true=>exact h1 (Fz h3 h)
 | false =>
   have e:=KU h3 (by simpa using h2)
   rw [← e] at h
   exact h1 h
def Bh (xs:List Pst) (i j:Nat):Prop :=
 j≤i∧i< xs.length∧(xs.take j++(xs.take (i+1)).drop (j+1)).Pairwise Le∧∀ x,xs[j]? = some x→∀ y∈(xs.take (i+1)).drop (j+1),Le x y
theorem Bh.start {xs:List Pst}{i:Nat}(h:(xs.take i).Pairwise Le) (hi:i< xs.length):Bh xs i i:=by
 have:(xs.take (i+1)).drop (i+1)=[]:=List.drop_of_length_le (by simp; omega)
 refine ⟨Nat.le_refl _,hi,?_,?_⟩
 ·rw [this,List.append_nil]; exact h
 ·rw [this]; intro _ _ y hy; cases hy
theorem Pb {α:Type}{xs:List α}{j:Nat}{x y:α}(hx:xs[j]? = some x) (hy:xs[j - 1]? = some y) (hj:0< j):∃ A D,xs=A++y::x::D∧A.length=j - 1:=by
 refine ⟨xs.take (j - 1),xs.drop (j+1),?_,?_⟩
 ·have h1:=Ai hy
  rw [show j - 1+1=j by omega,Ai hx] at h1
  rw [← h1,List.take_append_drop]
 ·obtain ⟨h1,_⟩:=List.getElem?_eq_some_iff.1 hy
  rw [List.length_take]; omega
theorem swap_eq {α:Type}(A D:List α) (x y:α):((A++y::x::D).set (A.length+1) y).set A.length x=A++x::y::D:=by
 simp
theorem swap_perm {xs:List Pst}{j:Nat}{x y:Pst}(hx:xs[j]? = some x) (hy:xs[j - 1]? = some y) (hj:0< j):((xs.set j y).set (j - 1) x).Perm xs:=by
 obtain ⟨A,D,rfl,hA⟩:=Pb hx hy hj
 rw [show j=A.length+1 by omega,Nat.add_sub_cancel,swap_eq]
 exact List.Perm.append_left A (List.Perm.swap y x D)
theorem Bh.step {xs:List Pst}{i j:Nat}{x y:Pst}(h:Bh xs i j) (hj:0< j) (hx:xs[j]? = some x) (hy:xs[j - 1]? = some y) (hc:J1 x y< 0):Bh ((xs.set j y).set (j - 1) x) i (j - 1):=by
 obtain ⟨h1,h2,h3,h4⟩:=h
 have h5:=h4 x hx
 obtain ⟨A,D,rfl,hA⟩:=Pb hx hy hj
 have hj2:j=A.length+1:=by omega
 subst hj2
 have e1:(A++y::x::D).take (A.length+1)=A++[y]:=by rw [List.take_length_add_append]; rfl
 have e2:∀ a b:Pst,((A++a::b::D).take (i+1)).drop (A.length+1+1)=D.take (i - A.length - 1):=by
  intro a b
  rw [List.drop_take,show (A++a::b::D).drop (A.length+1+1)=D from (List.drop_length_add_append (l₁:=A) (l₂:=a::b::D) (i:=2))]
  congr 1
  omega
 have e3:((A++x::y::D).take (i+1)).drop (A.length+1)=y::D.take (i - A.length - 1):=by
  rw [List.drop_take,show (A++x::y::D).drop (A.length+1)=y::D from (List.drop_length_add_append (l₁:=A) (l₂:=x::y::D) (i:=1)),show i+1 - (A.length+1)=(i - A.length - 1)+1 by omega]
  rfl
 rw [e1,e2] at h3
 rw [e2] at h5
 rw [Nat.add_sub_cancel,swap_eq]
 refine ⟨by omega,by simpa using h2,?_,?_⟩
 ·rw [e3,show (A++x::y::D).take A.length=A by simp]
  simpa using h3
 ·intro x' hx' z hz
  rw [e3] at hz
  have:x'=x:=by
   have hg:(A++x::y::D)[A.length]? = some x:=by simp
   rw [hg] at hx'
   cases hx'
   rfl
  subst this
  rcases List.mem_cons.1 hz with rfl | hz
  ·exact Le.of_lt hc
  ·exact h5 z hz
theorem Bh.exit {xs:List Pst}{i j:Nat}(h:Bh xs i j) (hj:j=0∨∃ x y,xs[j]? = some x∧xs[j - 1]? = some y∧¬ J1 x y< 0):(xs.take (i+1)).Pairwise Le:=by
 obtain ⟨h1,h2,h3,h4⟩:=h
 have hjl:j< xs.length:=by omega
 have hx:xs[j]? = some xs[j]:=AU hjl
 have h5:=h4 _ hx
 have e:xs.take (i+1)=xs.take j++xs[j]::(xs.take (i+1)).drop (j+1):=by
  have h6:(xs.take (i+1)).take j=xs.take j:=by rw [List.take_take,Nat.min_eq_left AB]
  have h7:(xs.take (i+1))[j]? = some xs[j]:=by rw [List.getElem?_take,if_pos AB]; exact hx
  rw [← h6,← Ai h7,List.take_append_drop]
 rw [e]
 rw [List.pairwise_append] at h3 ⊢
 obtain ⟨g1,g2,g3⟩:=h3
 have key:∀ a∈xs.take j,Le a xs[j]:=by
  intro a ha
  rcases hj with rfl | ⟨x,y,hx',hy,hc⟩
  ·simp at ha
  ·have:x=xs[j]:=by rw [hx] at hx'; cases hx'; rfl
   subst this
   by_cases hj0:j=0
   ·subst hj0; simp at ha
   ·have hyl:xs.take j=xs.take (j - 1)++[y]:=by
     obtain ⟨k,rfl⟩:∃ k,j=k+1:=⟨j - 1,by omega⟩
     rw [Nat.add_sub_cancel] at hy
     rw [List.take_add_one,hy]
     simp
    have hyc:Le y xs[j]:=hc
    rw [hyl] at ha g1
    rcases List.mem_append.1 ha with ha | ha
    ·exact Le.trans ((List.pairwise_append.1 g1).2.2 a ha y AD) hyc
    ·simp at ha; subst ha; exact hyc
 refine ⟨g1,List.pairwise_cons.2 ⟨h5,g2⟩,fun a ha b hb=>?_⟩
 rcases List.mem_cons.1 hb with rfl | hb
 ·exact key a ha
 ·exact g3 a ha b hb
theorem Bh.SH {xs:List Pst}{i:Nat}{j:Int}{x y:Pst}(h:Bh xs i j.toNat) (hj:j > 0) (hx:xs[j.toNat]? = some x) (hy:xs[(j - 1).toNat]? = some y) (hc:J1 x y< 0):Bh ((xs.set j.toNat y).set (j - 1).toNat x) i (j - 1).toNat:=by
 rw [show (j - 1).toNat=j.toNat - 1 by omega] at *
 exact h.step AB hx hy hc
theorem JT {xs xs0:List Pst}{j:Int}{x y:Pst}(hx:xs[j.toNat]? = some x) (hy:xs[(j - 1).toNat]? = some y) (hj:j > 0) (h:xs.Perm xs0):((xs.set j.toNat y).set (j - 1).toNat x).Perm xs0:=by
 rw [show (j - 1).toNat=j.toNat - 1 by omega] at *
 exact (swap_perm hx hy AB).trans h
theorem Bh.Tn {xs:List Pst}{i:Nat}{j:Int}(h:Bh xs i j.toNat) (hj:¬ j > 0):(xs.take (i+1)).Pairwise Le:=h.exit (.inl AB)
theorem Bh.To {xs:List Pst}{i:Nat}{j:Int}{x y:Pst}(h:Bh xs i j.toNat) (hj:j > 0) (hx:xs[j.toNat]? = some x) (hy:xs[(j - 1).toNat]? = some y) (hc:¬ J1 x y< 0):(xs.take (i+1)).Pairwise Le:=by
 rw [show (j - 1).toNat=j.toNat - 1 by omega] at hy
 exact h.exit (.inr ⟨x,y,hx,hy,hc⟩)
end Go.Proofs.YtggnnidleedpaaaGreat
namespace Go.Proofs.YtggnnidleedpaaaGreat
set_option maxRecDepth 100000
set_option maxHeartbeats 4000000
variable {w:World} {F:Nat→Prop}
theorem Ib {r n c:Nat}{xs0:List Pst}(ho:Own w r 117 F n c xs0):Calls Tryz.prog 168 [.slice (some ⟨r,0,none⟩) n c,.int .i64 0,.int .i64 (n:Int),.func (.func 123) #[] #[]].toArray w (BB fun rv w'=>rv=.tuple #[]∧∃ zs,zs.Perm xs0∧zs.Pairwise Le∧Own w' r 117 F n c zs∧Chg (one r) w w'):=by
 refine goT func168 ?_
 replace ho:=ho.Nl; have hnl:=ho.len; have hnm:=ho.max
 refine .s<|.g<|.r 1<|.it (1)<|.r 1<|.d<|.b 0<|T.loop (X:=Nat × (List Pst)) (1,xs0) (fun (i,xs)=>[(0,vS r n c),(1,vI 0),(2,vI (n:Int)),(3,.func (.func 123) #[] #[]),(8,vI (i:Int))]) (fun (i,xs) aN=>Chg (ins [r]) w aN∧Own aN r 117 (nin F [r]) n c xs∧(1≤i)∧(xs.Perm xs0)∧((xs.take i).Pairwise Le)) (fun (i,xs)=>n - i) AA ⟨AA,AA,AA,AA,AA,trivial⟩ ⟨Chg.refl _ _,ho,AB,(by exact List.Perm.refl _),(by cases xs0 <;> simp)⟩ ?_
 rintro ⟨i,xs⟩ dt aN ⟨C,aK,cK,cL,cM⟩ av
 have cN:Cov (ins [r]) w r:=⟨.inl AI⟩
 have E:Chg (one r) w aN:=Chg.Cr (Chg.refl (one r) w) C (all_cons (Cov.mk1 w r) all_nil)
 have cO:=aK.len
 refine .s<|.s<|.g<|.r 2<|.bp ((i:Int)< (n:Int)) (fun b0=>?_) (fun b0=>.d<|.cf<|.x 0 rfl<|T.Ez func168 results168 ⟨rfl,_,(by assumption:xs.Perm xs0),(by have q1:(xs.take i).Pairwise Le:=‹_›; rw [List.take_of_length_le AB] at q1; exact q1),aK.Lx,E⟩)
 refine .d<|.ct<|.sk<|.s<|.b 1<|.s<|.g<|.r 2<|.d<|.b 2<|T.loop (X:=Int × (List Pst)) ((i:Int),xs) (fun (j,ab)=>[(0,vS r n c),(1,vI 0),(2,vI (n:Int)),(3,.func (.func 123) #[] #[]),(8,vI (i:Int)),(9,vI j)]) (fun (j,ab) bF=>Chg (ins [r]) aN bF∧Own bF r 117 (nin F [r]) n c ab∧(0≤j)∧(ab.Perm xs0)∧(Bh ab i j.toNat)) (fun (j,ab)=>j.toNat) AA ⟨AA,AA,AA,AA,AA,AA,trivial⟩ ⟨Chg.refl _ _,aK,AB,‹_›,(by exact Bh.start ‹_› AB)⟩ ?_
 rintro ⟨j,ab⟩ du bF ⟨W,J,cQ,cR,cS⟩ aw
 have cT:Cov (ins [r]) aN r:=⟨.inl AI⟩
 replace ⟨E,C⟩:=(si W).g2 E C
 have cU:=J.len
 refine .s<|.s<|.gd nil 14 fun b6 bn=>?_
 replace ⟨J,E,C,W⟩:=(se [r] bn).g4 J E C W
 refine .r [0,1]<|GA.Ey (i:=2) (j > 0) AA (fun b7=>?_) (fun b7=>?_)
 ·refine .r [3,4,5,6] ?_
  have b8:j.toNat< n:=(by have q1:Bh ab i j.toNat:=‹_›; have q2:=q1.1; omega)
  refine GA.idx (i:=7) (b:=r) (o:=0) (j.toNat) (len:=n) (z:=j) (sz:=3) AA (by have q1:Bh ab i j.toNat:=‹_›; omega) b8 rfl ?_
  obtain ⟨aa,ah⟩:∃ y,ab[j.toNat]? = some y:=⟨_,AU (by have q1:Bh ab i j.toNat:=‹_›; omega)⟩
  obtain ⟨_,⟨cA,dv,cB,rfl,az⟩,aO⟩:=J.elem (j.toNat) aa ah
  replace az:=az.CE (fun _ _ h=>h.1)
  have b9:=az.len
  subst b9
  replace aO:Has b6 ⟨r,0+(j.toNat) * Rep.sz Pst,none⟩ [vT aa.tag.key,vT aa.tag.val,.slice cA aa.ids.length cB]:=by rw [Nat.zero_add]; exact aO
  refine .lg 8 0 aO id<|.r [9,10]<|GA.int (i:=11) (j - 1) AA AB ?_
  have cd:(j - 1).toNat< n:=(by have q1:Bh ab i j.toNat:=‹_›; omega)
  refine GA.idx (i:=12) (b:=r) (o:=0) ((j - 1).toNat) (len:=n) (z:=j - 1) (sz:=3) AA (by have q1:Bh ab i j.toNat:=‹_›; omega) cd rfl ?_
  obtain ⟨ac,ax⟩:∃ y,ab[(j - 1).toNat]? = some y:=⟨_,AU (by have q1:Bh ab i j.toNat:=‹_›; omega)⟩
  obtain ⟨_,⟨cC,dw,cD,rfl,aA⟩,aP⟩:=J.elem ((j - 1).toNat) ac ax
  replace aA:=aA.CE (fun _ _ h=>h.1)
  have ce:=aA.len
  subst ce
  replace aP:Has b6 ⟨r,0+((j - 1).toNat) * Rep.sz Pst,none⟩ [vT ac.tag.key,vT ac.tag.val,.slice cC ac.ids.length cD]:=by rw [Nat.zero_add]; exact aP
  refine .lg 13 0 aP id<|.d fun cE bo=>?_
  replace ⟨J,az,aA,E,C,W⟩:=(se [r] bo).g6 J az aA E C W
  refine .cl (Hs aa ac az.ta aA.ta (w:=cE) (F:=all)) ?_
  rintro dx bG ⟨rfl,bq⟩
  replace ⟨J,E,C,W⟩:=(se [r] bq).g4 J E C W
  refine .bp (J1 aa ac< 0) (fun cg=>?_) (fun cg=>.r 1<|.d<|.cf<|.x 2 rfl<|.ib 1<|.g<|.r 1<|.it ((i:Int)+1)<|.r 1<|.d<|av (i+1,ab) _ _ ⟨AA,AA,AA,AA,AA,trivial⟩ ⟨C,J,AB,‹_›,(by exact Bh.To ‹_› ‹_› ‹_› ‹_› ‹_›)⟩ (by (simp only []; omega)))
  refine .r 1<|.d<|.ct<|.sk<|.s<|.b 3 ?_
  have br:Cov (mtb [r] bG.heap.size) bG r:=⟨.inl (.inl AI)⟩
  refine .gd (mtb [r] bG.heap.size) 16 fun ci bt=>?_
  replace ⟨J,E,C,W⟩:=(se [r] bt).g4 J E C W
  refine .r [0,1,2,3]<|GA.int (i:=4) (j - 1) AA AB<|.r [5,6]<|GA.int (i:=7) (j - 1) AA AB ?_
  have cj:(j - 1).toNat< n:=(by have q1:Bh ab i j.toNat:=‹_›; omega)
  refine GA.idx (i:=8) (b:=r) (o:=0) ((j - 1).toNat) (len:=n) (z:=j - 1) (sz:=3) AA (by have q1:Bh ab i j.toNat:=‹_›; omega) cj rfl<|.r [10,11] ?_
  have ck:j.toNat< n:=(by have q1:Bh ab i j.toNat:=‹_›; omega)
  refine GA.idx (i:=12) (b:=r) (o:=0) (j.toNat) (len:=n) (z:=j) (sz:=3) AA (by have q1:Bh ab i j.toNat:=‹_›; omega) ck rfl<|.tw 9 13 ?_ ?_
  ·obtain ⟨_,⟨bH,dy,bI,rfl,ay⟩,aQ⟩:=J.elem ((j - 1).toNat) ac ax
   replace ay:=ay.CE (fun _ _ h=>h.1)
   have cm:=ay.len
   subst cm
   replace aQ:Has ci ⟨r,0+((j - 1).toNat) * Rep.sz Pst,none⟩ [vT ac.tag.key,vT ac.tag.val,.slice bH ac.ids.length bI]:=by rw [Nat.zero_add]; exact aQ
   refine GE.Fi (t':=117) 0 [vT ac.tag.key,vT ac.tag.val,.slice bH ac.ids.length bI] aQ AA AA AA fun cF bu=>?_
   replace ⟨J,ay,E,C,W⟩:=(se [r] bu).g5 J ay E C W
   refine .go 13 ?_
   obtain ⟨_,⟨aR,c7,aS,rfl,ag⟩,aB⟩:=J.elem (j.toNat) aa ah
   replace ag:=ag.CE (fun _ _ h=>h.1)
   have bJ:=ag.len
   subst bJ
   replace aB:Has cF ⟨r,0+(j.toNat) * Rep.sz Pst,none⟩ [vT aa.tag.key,vT aa.tag.val,.slice aR aa.ids.length aS]:=by rw [Nat.zero_add]; exact aB
   refine GE.Fi (t':=117) 0 [vT aa.tag.key,vT aa.tag.val,.slice aR aa.ids.length aS] aB AA AA AA fun co aT=>?_
   replace ⟨J,ay,ag,E,C,W⟩:=(se [r] aT).g6 J ay ag E C W
   have bK:j.toNat< n:=(by have q1:Bh ab i j.toNat:=‹_›; omega)
   refine GA.idx (i:=14) (b:=r) (o:=0) (j.toNat) (len:=n) (z:=j) (sz:=3) AA (by have q1:Bh ab i j.toNat:=‹_›; omega) bK rfl<|.go 15 ?_
   obtain ⟨_,⟨bv,c8,bw,rfl,aU⟩,aC⟩:=J.elem (j.toNat) aa ah
   replace aU:=aU.CE (fun _ _ h=>h.1)
   have bL:=aU.len
   subst bL
   replace aC:Has co ⟨r,0+(j.toNat) * Rep.sz Pst,none⟩ [vT aa.tag.key,vT aa.tag.val,.slice bv aa.ids.length bw]:=by rw [Nat.zero_add]; exact aC
   refine GE.DQ (t':=117) (q:=(j.toNat)) (k:=0) (v:=.agg #[vT ac.tag.key,vT ac.tag.val,.slice bH ac.ids.length bI]) (cs:=[vT aa.tag.key,vT aa.tag.val,.slice bv aa.ids.length bw]) ac J ah aC ⟨_,_,_,rfl,ay.oi⟩ AA AA AA fun c9 aV=>?_
   replace ⟨J,ag,E,C,W⟩:=(se [r] aV).g5 J ag E C W
   intro da ao aD bM
   have hkeep_:=Chg.toS aD (Cov.toS br)
   replace ⟨ag,E,C,W⟩:=(so [r] aD).g4 ag E C W
   refine ⟨hkeep_,?_⟩
   refine .d fun cp aW=>?_
   replace ⟨ao,ag,E,C,W⟩:=(se [r] aW).g5 ao ag E C W
   have bN:(j - 1).toNat< n:=(by have q1:Bh ab i j.toNat:=‹_›; omega)
   refine RG.idx (b:=r) (o:=0) ((j - 1).toNat) (len:=n) (i:=j - 1) (sz:=3) AA (by have q1:Bh ab i j.toNat:=‹_›; omega) bN rfl ?_
   obtain ⟨ai,aq⟩:∃ y,(ab.set (j.toNat) ac)[(j - 1).toNat]? = some y:=⟨_,AU (by have q1:Bh ab i j.toNat:=‹_›; (rw [List.length_set]; omega))⟩
   obtain ⟨_,⟨bz,db,bA,rfl,aL⟩,aE⟩:=ao.elem ((j - 1).toNat) ai aq
   replace aL:=aL.CE (fun _ _ h=>h.1)
   have bO:=aL.len
   subst bO
   replace aE:Has cp ⟨r,0+((j - 1).toNat) * Rep.sz Pst,none⟩ [vT ai.tag.key,vT ai.tag.val,.slice bz ai.ids.length bA]:=by rw [Nat.zero_add]; exact aE
   refine RG.DQ (t':=117) (i:=((j - 1).toNat)) (k:=0) (v:=.agg #[vT aa.tag.key,vT aa.tag.val,.slice aR aa.ids.length aS]) (cs:=[vT ai.tag.key,vT ai.tag.val,.slice bz ai.ids.length bA]) aa ao aq aE AA AA AA ⟨_,_,_,rfl,ag.oi⟩ fun de bP aX bQ=>?_
   replace ⟨E,C,W⟩:=(s1 aX).g3 E C W
   exact .d<|.ib 3<|.g<|.r 1<|.it (j - 1)<|.r 1<|.d<|aw (j - 1,((ab.set (j.toNat) ac).set ((j - 1).toNat) aa)) _ _ ⟨AA,AA,AA,AA,AA,AA,trivial⟩ ⟨W,bP,AB,(by exact JT ‹_› ‹_› ‹_› ‹_›),(by exact Bh.SH ‹_› ‹_› ‹_› ‹_› ‹_›)⟩ (by (simp only []; omega))
  obtain ⟨_,⟨aY,df,aZ,rfl,af⟩,aF⟩:=J.elem (j.toNat) aa ah
  replace af:=af.CE (fun _ _ h=>h.1)
  have bR:=af.len
  subst bR
  replace aF:Has ci ⟨r,0+(j.toNat) * Rep.sz Pst,none⟩ [vT aa.tag.key,vT aa.tag.val,.slice aY aa.ids.length aZ]:=by rw [Nat.zero_add]; exact aF
  refine GE.Fi (t':=117) 0 [vT aa.tag.key,vT aa.tag.val,.slice aY aa.ids.length aZ] aF AA AA AA fun cr ba=>?_
  replace ⟨J,af,E,C,W⟩:=(se [r] ba).g5 J af E C W
  refine .go 9 ?_
  obtain ⟨_,⟨bc,dg,bd,rfl,ak⟩,aG⟩:=J.elem ((j - 1).toNat) ac ax
  replace ak:=ak.CE (fun _ _ h=>h.1)
  have bS:=ak.len
  subst bS
  replace aG:Has cr ⟨r,0+((j - 1).toNat) * Rep.sz Pst,none⟩ [vT ac.tag.key,vT ac.tag.val,.slice bc ac.ids.length bd]:=by rw [Nat.zero_add]; exact aG
  refine GE.Fi (t':=117) 0 [vT ac.tag.key,vT ac.tag.val,.slice bc ac.ids.length bd] aG AA AA AA fun cu bg=>?_
  replace ⟨J,af,ak,E,C,W⟩:=(se [r] bg).g6 J af ak E C W
  have bT:j.toNat< n:=(by have q1:Bh ab i j.toNat:=‹_›; omega)
  refine GA.idx (i:=14) (b:=r) (o:=0) (j.toNat) (len:=n) (z:=j) (sz:=3) AA (by have q1:Bh ab i j.toNat:=‹_›; omega) bT rfl<|.go 15 ?_
  obtain ⟨_,⟨bB,dh,bC,rfl,bh⟩,aH⟩:=J.elem (j.toNat) aa ah
  replace bh:=bh.CE (fun _ _ h=>h.1)
  have bU:=bh.len
  subst bU
  replace aH:Has cu ⟨r,0+(j.toNat) * Rep.sz Pst,none⟩ [vT aa.tag.key,vT aa.tag.val,.slice bB aa.ids.length bC]:=by rw [Nat.zero_add]; exact aH
  refine GE.DQ (t':=117) (q:=(j.toNat)) (k:=0) (v:=.agg #[vT ac.tag.key,vT ac.tag.val,.slice bc ac.ids.length bd]) (cs:=[vT aa.tag.key,vT aa.tag.val,.slice bB aa.ids.length bC]) ac J ah aH ⟨_,_,_,rfl,ak.oi⟩ AA AA AA fun dj bi=>?_
  replace ⟨J,af,E,C,W⟩:=(se [r] bi).g5 J af E C W
  intro dm ar aI bV
  have hkeep_:=Chg.toS aI (Cov.toS br)
  replace ⟨af,E,C,W⟩:=(so [r] aI).g4 af E C W
  refine ⟨hkeep_,?_⟩
  refine .d fun cw bj=>?_
  replace ⟨ar,af,E,C,W⟩:=(se [r] bj).g5 ar af E C W
  have bW:(j - 1).toNat< n:=(by have q1:Bh ab i j.toNat:=‹_›; omega)
  refine RG.idx (b:=r) (o:=0) ((j - 1).toNat) (len:=n) (i:=j - 1) (sz:=3) AA (by have q1:Bh ab i j.toNat:=‹_›; omega) bW rfl ?_
  obtain ⟨aj,au⟩:∃ y,(ab.set (j.toNat) ac)[(j - 1).toNat]? = some y:=⟨_,AU (by have q1:Bh ab i j.toNat:=‹_›; (rw [List.length_set]; omega))⟩
  obtain ⟨_,⟨bD,dp,bE,rfl,aM⟩,aJ⟩:=ar.elem ((j - 1).toNat) aj au
  replace aM:=aM.CE (fun _ _ h=>h.1)
  have bX:=aM.len
  subst bX
  replace aJ:Has cw ⟨r,0+((j - 1).toNat) * Rep.sz Pst,none⟩ [vT aj.tag.key,vT aj.tag.val,.slice bD aj.ids.length bE]:=by rw [Nat.zero_add]; exact aJ
  refine RG.DQ (t':=117) (i:=((j - 1).toNat)) (k:=0) (v:=.agg #[vT aa.tag.key,vT aa.tag.val,.slice aY aa.ids.length aZ]) (cs:=[vT aj.tag.key,vT aj.tag.val,.slice bD aj.ids.length bE]) aa ar au aJ AA AA AA ⟨_,_,_,rfl,af.oi⟩ fun dq bY bk bZ=>?_
  replace ⟨E,C,W⟩:=(s1 bk).g3 E C W
  exact .d<|.ib 3<|.g<|.r 1<|.it (j - 1)<|.r 1<|.d<|aw (j - 1,((ab.set (j.toNat) ac).set ((j - 1).toNat) aa)) _ _ ⟨AA,AA,AA,AA,AA,AA,trivial⟩ ⟨W,bY,AB,(by exact JT ‹_› ‹_› ‹_› ‹_›),(by exact Bh.SH ‹_› ‹_› ‹_› ‹_› ‹_›)⟩ (by (simp only []; omega))
 refine .r [3]<|GA.skip AA fun dr bm=>?_
 replace ⟨J,E,C⟩:=(se [r] bm).g3 J E C
 exact .r 3<|.d<|.cf<|.x 2 rfl<|.ib 1<|.g<|.r 1<|.it ((i:Int)+1)<|.r 1<|.d<|av (i+1,ab) _ _ ⟨AA,AA,AA,AA,AA,trivial⟩ ⟨C,J,AB,‹_›,(by exact Bh.Tn ‹_› ‹_›)⟩ (by (simp only []; omega))
theorem OS {r n c:Nat}{xs0:List Pst}{z:Int}(ho:Own w r 117 F n c xs0) (hn:n≤12):Calls Tryz.prog 152 [.slice (some ⟨r,0,none⟩) n c,.int .i64 0,.int .i64 (n:Int),.int .i64 z,.func (.func 123) #[] #[]].toArray w (BB fun rv w'=>rv=.tuple #[]∧∃ zs,zs.Perm xs0∧zs.Pairwise Le∧Own w' r 117 F n c zs∧Chg (one r) w w'):=by
 refine goT func152 ?_
 replace ho:=ho.Nl; have hnl:=ho.len
 refine .s<|.g<|.r 1<|.d<|.s<|.g<|.r 1<|.d<|.b 0<|T.loop (X:=Unit) () (fun _=>[(0,vS r n c),(1,vI 0),(2,vI (n:Int)),(3,vI z),(4,.func (.func 123) #[] #[]),(10,.bool true),(11,.bool true)]) (fun _ w_=>w_=w) (fun _=>0) AA ⟨AA,AA,AA,AA,AA,AA,AA,trivial⟩ rfl ?_
 rintro u_ e_ af hw_ hl_; clear hl_; rw [hw_]; clear hw_
 refine .b 1<|.s<|.g<|.r 2<|.it ((n:Int) - 0)<|.r 1<|.d<|.s<|.s<|.g<|.r 1<|.bp ((n:Int) - 0≤12) (fun E=>?_) (fun E=>absurd (show False by omega) id)
 refine .d<|.ct<|.s<|.g<|.r 4<|.cl (Ib ho) ?_
 rintro ag ac ⟨rfl,ae,J,W,aa,C⟩
 have ab:Chg (one r) w ac:=Chg.EW (Chg.refl (one r) w) C (Cov.mk1 w r)
 exact .d<|T.I6 AA func152 results152 ⟨rfl,_,J,W,aa.Lx,ab⟩
theorem M0 {w:World}{n:Nat}(h:n≤1000):Calls Tryz.prog 153 [.int .u64 (n:Int)].toArray w (BB fun rv w'=>∃ z:Int,rv=.int .i64 z∧Ext w w'):=by
 refine (Pa (n:Int) w AB AB).mono ?_
 rintro e w' ⟨rfl,rfl⟩
 exact ⟨_,rfl,_,rfl,Ext.refl _⟩
theorem Hv {r n c:Nat}{xs0:List Pst}(ho:Own w r 117 F n c xs0) (hn:n≤12):Calls Tryz.prog 122 [.slice (some ⟨r,0,none⟩) n c,.func (.func 123) #[] #[]].toArray w (BB fun rv w'=>rv=.tuple #[]∧∃ zs,zs.Perm xs0∧zs.Pairwise Le∧Own w' r 117 F n c zs∧Chg (one r) w w'):=by
 refine goT func122 ?_
 replace ho:=ho.Nl; have hnl:=ho.len
 refine .s<|.g<|.r 3<|.d<|.g<|.r 3<|RG.eqv (v:=.int .u64 (n:Int)) (v':=.int .u64 (IntKind.u64.wrap (n:Int))) AA (by rw [IntWalk.u64_in _ AB])<|.cl (M0 (n:=n) AB) ?_
 rintro ag ac ⟨ae,rfl,C⟩
 replace ho:=(se [r] C).g1 ho
 have E:Chg (one r) w ac:=Chg.Cb (Chg.refl (one r) w) C
 refine .r 1<|.cl (OS ho AB (z:=ae)) ?_
 rintro ah ai ⟨rfl,af,W,aa,ab,J⟩
 replace E:=(s1 J).g1 E
 exact .d<|T.Ez func122 results122 ⟨rfl,_,W,aa,ab.Lx,E⟩
end Go.Proofs.YtggnnidleedpaaaGreat
namespace Go.Proofs.YtggnnidleedpaaaGreat
structure RepP (xs:List Pst) (L:Tag→List Int):Prop where
 nd:(xs.map Pst.tag).Nodup
 el:∀ x∈xs,x.ids=L x.tag∧x.ids≠[]
 all:∀ t,L t≠[]→∃ x∈xs,x.tag=t
theorem RepP.add {xs:List Pst}{L:Tag→List Int}(h:RepP xs L) (k:Int) (t:Tag):RepP (Gr k xs t) (fun u=>L u++(if u=t then [k] else [])):=by
 rcases KS t xs 0 with ⟨h1,h2⟩ | ⟨h1,h2,x,h3,h4⟩
 ·have hn:CQ t 0 xs< 0:=by omega
  have hL:L t=[]:=by
   by_cases he:L t=[]
   ·exact he
   ·obtain ⟨x,hx,hxt⟩:=h.all t he
    exact absurd hxt (h2 x hx)
  rw [Lu hn]
  refine ⟨?_,fun x hx=>?_,fun u hu=>?_⟩
  ·rw [List.map_append]
   refine List.nodup_append.2 ⟨h.nd,by simp,fun a ha b hb=>?_⟩
   simp at hb
   subst hb
   obtain ⟨x,hx,rfl⟩:=List.mem_map.1 ha
   exact h2 x hx
  ·rcases List.mem_append.1 hx with hx | hx
   ·have:=h.el x hx
    have hne:=h2 x hx
    rw [if_neg hne,List.append_nil]
    exact this
   ·simp at hx
    subst hx
    simp [hL]
  ·by_cases hut:u=t
   ·exact ⟨⟨t,[k]⟩,by simp,hut.symm⟩
   ·rw [if_neg hut,List.append_nil] at hu
    obtain ⟨x,hx,hxu⟩:=h.all u hu
    exact ⟨x,by simp [hx],hxu⟩
 ·have hn:¬ CQ t 0 xs< 0:=by omega
  rw [Nat.sub_zero] at h3
  rw [Lv hn h3]
  generalize (CQ t 0 xs).toNat=i at h3
  obtain ⟨hil,hie⟩:=List.getElem?_eq_some_iff.1 h3
  have hmap:(xs.set i ⟨x.tag,x.ids++[k]⟩).map Pst.tag=xs.map Pst.tag:=by
   rw [List.map_set]
   have h5:(xs.map Pst.tag)[i]'(by simpa using hil)=x.tag:=by simp [hie]
   have h6:=List.set_getElem_self (show i< (xs.map Pst.tag).length by simpa using hil)
   rw [h5] at h6
   exact h6
  refine ⟨by rw [hmap]; exact h.nd,fun y hy=>?_,fun u hu=>?_⟩
  ·obtain ⟨j,hj,hjy⟩:=List.mem_iff_getElem.1 hy
   rw [List.getElem_set] at hjy
   have hj2:j< xs.length:=by simpa using hj
   split at hjy
   ·subst hjy
    have:=h.el x (AV h3)
    simp only
    rw [if_pos h4,this.1]
    exact ⟨rfl,by simp⟩
   ·rename_i hij
    have hym:y∈xs:=hjy▸List.getElem_mem hj2
    have hne:¬ y.tag=t:=fun e=>hij (by
     have h5:(xs.map Pst.tag)[i]'(by simpa using hil)=(xs.map Pst.tag)[j]'(by simpa using hj2):=by simp [hie,hjy,h4,e]
     exact (List.getElem_inj (h₀:=by simpa using hil) (h₁:=by simpa using hj2) h.nd).1 h5)
    rw [if_neg hne,List.append_nil]
    exact h.el y hym
  ·have key:∃ y∈xs,y.tag=u:=by
    by_cases hut:u=t
    ·exact ⟨x,AV h3,h4.trans hut.symm⟩
    ·rw [if_neg hut,List.append_nil] at hu
     exact h.all u hu
   obtain ⟨y,hy,hyu⟩:=key
   have hm:u∈(xs.set i ⟨x.tag,x.ids++[k]⟩).map Pst.tag:=by rw [hmap]; exact List.mem_map.2 ⟨y,hy,hyu⟩
   obtain ⟨z,hz,hzu⟩:=List.mem_map.1 hm
   exact ⟨z,hz,hzu⟩
theorem RepP.congr {xs:List Pst}{L L':Tag→List Int}(h:RepP xs L) (e:∀ t,L t=L' t):RepP xs L':=by
 have:L=L':=funext e
 rw [← this]; exact h
theorem RepP.name (k:Int):∀ (n:List Tag) (xs:List Pst) (L:Tag→List Int),n.Nodup→RepP xs L→RepP (n.foldl (Gr k) xs) (fun u=>L u++(if has n u then [k] else [])):=by
 intro n
 induction n with
 | nil=>intro xs L _ h; exact h.congr (fun t=>by simp [has])
 | cons t ts ih =>
   intro xs L hn h
   rw [List.nodup_cons] at hn
   refine (ih _ _ hn.2 (h.add k t)).congr (fun u=>?_)
   rw [List.append_assoc]
   congr 1
   by_cases hu:u=t
   ·subst hu
    have:has ts u=false:=by
     unfold has
     rw [List.any_eq_false]
     intro y hy e
     exact hn.1 (by rw [← eq_of_beq e]; exact hy)
    rw [this]
    simp [has]
   ·have:(t==u)=false:=by rw [beq_eq_false_iff_ne]; exact fun e=>hu e.symm
    simp only [if_neg hu,List.nil_append,has,List.any_cons,this,Bool.false_or]
    rfl
theorem RepP.bld:∀ (ns:List (List Tag)) (i:Nat) (xs:List Pst) (L:Tag→List Int),(∀ n∈ns,n.Nodup)→RepP xs L→RepP (HJ i xs ns) (fun u=>L u++GP u i ns):=by
 intro ns
 induction ns with
 | nil=>intro i xs L _ h; exact h.congr (fun t=>by simp [GP])
 | cons n ns ih =>
   intro i xs L hn h
   refine (ih (i+1) _ _ (fun m hm=>hn m (by simp [hm])) (RepP.name _ n xs L (hn n AD) h)).congr (fun u=>?_)
   rw [List.append_assoc,GP]
theorem RepP.Tp {names:List (List Tag)}(h:NmI names):RepP (HJ 0 [] names) (ids names) :=
 (RepP.bld names 0 [] (fun _=>[]) (fun n hn=>(HD (h.ok n hn)).1) ⟨by simp,by simp,by simp⟩).congr (fun u=>by unfold ids; simp)
theorem Pc {names:List (List Tag)}{t:Tag}(h:ids names t≠[]):∃ n∈names,t∈n:=by
 unfold ids at h
 have:∀ (ns:List (List Tag)) (i:Nat),GP t i ns≠[]→∃ n∈ns,t∈n:=by
  intro ns
  induction ns with
  | nil=>intro i h; simp [GP] at h
  | cons n ns ih =>
    intro i h
    rw [GP] at h
    by_cases hb:has n t=true
    ·refine ⟨n,by simp,?_⟩
     unfold has at hb
     rw [List.any_eq_true] at hb
     obtain ⟨y,hy,e⟩:=hb
     rw [← eq_of_beq e]; exact hy
    ·rw [if_neg hb,List.nil_append] at h
     obtain ⟨m,hm,ht⟩:=ih (i+1) h
     exact ⟨m,by simp [hm],ht⟩
 exact this names 0 h
theorem Hw {α:Type}[DecidableEq α]:∀ (l U:List α),l.Nodup→(∀ x∈l,x∈U)→l.length≤U.length:=by
 intro l
 induction l with
 | nil=>intro U _ _; simp
 | cons a l ih =>
   intro U hn hU
   rw [List.nodup_cons] at hn
   have ha:=hU a AD
   have:=ih (U.erase a) hn.2 (fun x hx=>(List.mem_erase_of_ne (fun e:x=a=>hn.1 (by rw [← e]; exact hx))).2 (hU x (by simp [hx])))
   rw [List.length_erase_of_mem ha] at this
   have:=List.length_pos_of_mem ha
   simp only [List.length_cons]; omega
def Nn:List Tag:=[⟨[97],[112]⟩,⟨[97],[113]⟩,⟨[97],[122]⟩,⟨[98],[112]⟩,⟨[98],[113]⟩,⟨[98],[122]⟩,⟨[99],[112]⟩,⟨[99],[113]⟩,⟨[99],[122]⟩]
theorem OT {t:Tag}(h:Bq t=true) (hd:GQ t):t∈Nn:=by
 obtain ⟨k,v⟩:=t
 obtain ⟨h1,h2⟩:=hd
 simp only [Bq,AW] at h
 simp only [List.mem_cons,List.not_mem_nil,or_false] at h1 h2
 have hv:=Dh h.2
 have h3:v=[112]∨v=[113]∨v=[122]:=by
  rcases h2 with rfl | rfl | rfl | rfl | rfl | rfl
  ·exact .inl rfl
  ·exact .inr (.inl rfl)
  ·exact .inr (.inr rfl)
  ·simp at hv
  ·have:=h.2; simp [JD,inR] at this
  ·simp at hv
 rcases h1 with rfl | rfl | rfl <;> rcases h3 with rfl | rfl | rfl <;> simp [Nn]
theorem Pd {names:List (List Tag)}(h:NmI names) (h2:NsD names):(HJ 0 [] names).length≤12:=by
 have hr:=RepP.Tp h
 have:=Hw ((HJ 0 [] names).map Pst.tag) Nn hr.nd (fun t ht=>by
  obtain ⟨x,hx,rfl⟩:=List.mem_map.1 ht
  have g:=hr.el x hx
  obtain ⟨n,hn,ht⟩:=Pc (by rw [← g.1]; exact g.2:ids names x.tag≠[])
  have ho:=h.ok n hn
  simp only [BC,AW] at ho
  exact OT (EZ n none ho.1 _ ht) ((h2 n hn).2 _ ht))
 rw [List.length_map] at this
 have h9:Nn.length=9:=rfl
 omega
theorem M3 {α:Type}{R:α→α→Prop}(hirr:∀ a,¬ R a a) (htr:∀ a b c,R a b→R b c→R a c):∀ (xs ys:List α),xs.Pairwise R→ys.Pairwise R→(∀ a,a∈xs↔a∈ys)→xs=ys:=by
 intro xs
 induction xs with
 | nil =>
   intro ys _ _ h
   cases ys with
   | nil=>rfl
   | cons y ys=>exact absurd ((h y).2 AD) AD
 | cons x xs ih =>
   intro ys hx hy h
   cases ys with
   | nil=>exact absurd ((h x).1 AD) AD
   | cons y ys =>
     rw [List.pairwise_cons] at hx hy
     have hxy:x=y:=by
      have h1:=(h x).1 AD
      have h2:=(h y).2 AD
      rcases List.mem_cons.1 h1 with h1 | h1
      ·exact h1
      ·rcases List.mem_cons.1 h2 with h2 | h2
       ·exact h2.symm
       ·exact absurd (htr _ _ _ (hy.1 x h1) (hx.1 y h2)) (hirr y)
     subst hxy
     congr 1
     refine ih ys hx.2 hy.2 (fun a=>⟨fun ha=>?_,fun ha=>?_⟩)
     ·rcases List.mem_cons.1 ((h a).1 (by simp [ha])) with rfl | h1
      ·exact absurd (hx.1 _ ha) (hirr _)
      ·exact h1
     ·rcases List.mem_cons.1 ((h a).2 (by simp [ha])) with rfl | h1
      ·exact absurd (hy.1 _ ha) (hirr _)
      ·exact h1
theorem Pe {names:List (List Tag)}(h:NmI names) (_h2:NsD names){xs zs:List Pst}(hp:zs.Perm xs) (hs:zs.Pairwise Le) (he:xs=HJ 0 [] names):(⟨names,zs⟩:Idx)=idxOf names:=by
 have hr:=RepP.Tp h
 rw [← he] at hr
 unfold idxOf
 congr 1
 have hnd:(zs.map Pst.tag).Nodup:=(hp.map Pst.tag).nodup_iff.2 hr.nd
 have hz:zs.Pairwise (fun a b=>D7 a.tag b.tag=true):=by
  rw [List.pairwise_iff_getElem] at hs ⊢
  intro i j hi hj hij
  have h1:=hs i j hi hj hij
  unfold Le at h1
  rw [LD] at h1
  cases h3:D7 zs[i].tag zs[j].tag with
  | true=>rfl
  | false =>
    have e:=KU h3 (by simpa using h1)
    have h5:(zs.map Pst.tag)[i]'(by simpa using hi)=(zs.map Pst.tag)[j]'(by simpa using hj):=by simpa using e
    have:=(List.getElem_inj (h₀:=by simpa using hi) (h₁:=by simpa using hj) hnd).1 h5
    omega
 refine M3 (R:=fun (a b:Pst)=>D7 a.tag b.tag=true) (fun a ha=>by rw [KT] at ha; cases ha) (fun a b c=>Fz) zs (DO names) hz (LA names) (fun p=>⟨fun hpz=>?_,fun hpp=>?_⟩)
 ·have g:=hr.el p (hp.mem_iff.1 hpz)
  obtain ⟨n,hn,ht⟩:=Pc (by rw [← g.1]; exact g.2:ids names p.tag≠[])
  have:=PT (names:=names) ((HD (h.ok n hn)).2 _ ht) (by rw [← g.1]; exact List.length_pos_iff.2 g.2)
  rw [← g.1] at this
  exact this
 ·obtain ⟨g1,g2,_⟩:=ON hpp
  obtain ⟨x,hx,hxt⟩:=hr.all p.tag (by rw [← g1]; exact List.length_pos_iff.1 g2)
  have g:=hr.el x hx
  have:x=p:=(EX x p).2 ⟨hxt,by rw [g.1,hxt,g1]⟩
  exact this▸hp.mem_iff.2 hx
end Go.Proofs.YtggnnidleedpaaaGreat
namespace Go.Proofs.YtggnnidleedpaaaGreat
set_option maxRecDepth 100000
set_option maxHeartbeats 4000000
variable {w:World} {F:Nat→Prop} {a1:Option Addr} {n1 c1:Nat}
theorem FZ (names:List (List Tag)) (h1:RepS w F a1 n1 c1 names) (p0:names.length≤7) (p1:∀ n∈names,n.length≤5) (p2:(HJ 0 [] names).length≤12):Calls Tryz.prog 78 [.slice a1 n1 c1].toArray w (BB fun rv w'=>(∃ (y:Idx),VS (ge w.heap.size) w' (y:Idx) rv∧(y.names=names∧(NmI names→NsD names→y=idxOf names)))∧Ext w w'):=by
 refine goT func78 ?_
 obtain ⟨rfl,dy,h1⟩:=h1.tp
 refine .s<|.g<|.np 28 [AH,AH] fun W cG bq br ay cH=>?_
 have cI:=Ae bq (Nat.le_refl _)
 replace h1:=(sn [] br bq).g1 h1
 have aj:=br
 refine .d<|.s<|.g<|.r 1<|.cl (Ak names h1.ta AB (fun n hn=>by have:=p1 n hn; omega) (w:=cG) (F:=all)) ?_
 rintro dV ab ⟨⟨bo,bL,bM,rfl,az,bi⟩,bR⟩
 have bS:=al1 ay.lt
 have cJ:Gb w.heap.size cG.heap.size:=aj.size
 have dz:=Ah bi ay.lt
 have cK:=Bo bi aj.size
 replace ⟨h1,ay,aj⟩:=(sz [W] bR bi).g3 h1 ay aj
 replace az:=Own.take (s0:=w.heap.size) (M:=[W]) az bS cJ
 have dA:=az.len
 have ao:=az.sl cK
 replace h1:=(sd ab [bo,W] bo).g1 h1
 have bZ:w.heap.size≤ab.heap.size:=aj.size
 replace ao:RepS ab (nin (GN w.heap.size ab.heap.size W) [W]) _ _ _ _:=ao.UR.CE (fun b _ h=>⟨h,by simp; exact h.2.2⟩)
 have h1c:=h1.Tl; have hEc:=aj; have hb2c:=ay
 refine .ns 0 117 [] fun aE dt bt bu cL cM=>?_
 have cN:Cov nil ab aE:=Bf bt (Nat.le_refl _)
 replace ao:=(sn [W] bu bt).g1 ao
 have ak:=bu
 have al:Own (α:=Pst) dt aE 117 (nin (ge w.heap.size) [aE,W]) 0 0 []:=Own.Aj cL
 refine .r 1<|.np 28 [AH,AH] fun aa dW bj bT cO cP=>?_
 have cQ:=AX bj al.lt
 have cR:=ak.cn bj
 replace ⟨ao,al,ak⟩:=(sn [aE,W] bT bj).g3 ao al ak
 refine .sc [vS bo bL bM,vS aE 0 0] cO fun dX bU cS cT=>?_
 replace ⟨ao,al,ak⟩:=(so [aa,aE,W] bU).g3 ao al ak
 refine .d<|.s<|.s<|.g<|.r 3<|.d<|.b 0 ?_
 have hix:=IX.US (tX:=28) (tP:=117) (tI:=3) (s0:=w.heap.size) (s1:=ab.heap.size) bZ (GN.lt (b2:=W)) ao.w1 cS al cQ (Cov.ge cR) (Cov.ge cN)
 have hE:=ak
 refine T.loop (X:=Nat × Nat × Nat × List RP × List Pst × List Nat) (aE,0,0,[],[],[]) (fun (r,c,k,ys,xs,rs)=>[(2,.pointer (some ⟨W,0,none⟩)),(3,.pointer (some ⟨aa,0,none⟩)),(13,.slice a1 names.length c1),(14,vI (names.length:Int)),(15,vI (k:Int))]) (fun (r,c,k,ys,xs,rs) w_=>Ext ab w_∧IX 28 117 3 w.heap.size ab.heap.size (GN w.heap.size ab.heap.size W) w_ aa r c (some ⟨bo,0,none⟩) bL bM names ys xs rs∧k≤names.length∧xs.length≤5 * k∧(∀ x∈xs,x.ids.length≤5 * k)∧HJ k xs (names.drop k)=HJ 0 [] names) (fun (r,c,k,ys,xs,rs)=>names.length - k) AA ⟨AA,AA,AA,AA,AA,trivial⟩ ⟨hE,hix,by omega,by simp,by simp,rfl⟩ ?_
 rintro ⟨r,c,k,ys,xs,rs⟩ e1_ dY ⟨hE,hix,hk,hxl,hil,hbl⟩ bN
 have hnm:=h1c.ext hE
 refine .s<|.g<|.bp ((k:Int)< (names.length:Int)) (fun cU=>?_) (fun cU=>?_)
 ·refine .d<|.s<|.ct<|.sk<|.s<|.b 1<|.s<|.g<|.r 1 ?_
  have cV:k< names.length:=AB
  refine .ix k 1 hnm cV ?_
  obtain ⟨ah,aA⟩:∃ y,names[k]? = some y:=⟨_,AU AB⟩
  obtain ⟨_,⟨du,dZ,dv,rfl,b0⟩,cW⟩:=hnm.elem k ah aA
  have cX:=b0.len
  subst cX
  have dD:=b0.max
  refine .lh 0 cW<|.r 2<|.d<|.s<|.g<|.r 3<|.d<|.b 2 ?_
  have hEA:=hE; have d0:=p1 ah (AV aA)
  refine T.loop (X:=Nat × Nat × Nat × List RP × List Pst × List Nat) (r,c,0,ys,xs,rs) (fun (rq,cq,j,J,E,ae)=>[(2,.pointer (some ⟨W,0,none⟩)),(3,.pointer (some ⟨aa,0,none⟩)),(4,vI (k:Int)),(13,.slice a1 names.length c1),(14,vI (names.length:Int)),(15,vI (k:Int)),(20,.slice du ah.length dv),(21,vI (ah.length:Int)),(22,vI (j:Int))]) (fun (rq,cq,j,J,E,ae) w_=>Ext ab w_∧IX 28 117 3 w.heap.size ab.heap.size (GN w.heap.size ab.heap.size W) w_ aa rq cq (some ⟨bo,0,none⟩) bL bM names J E ae∧j≤ah.length∧E.length≤5 * k+j∧(∀ x∈E,x.ids.length≤5 * k+j)∧(ah.drop j).foldl (Gr ((k:Int)+1)) E=ah.foldl (Gr ((k:Int)+1)) xs) (fun (rq,cq,j,J,E,ae)=>ah.length - j) AA ⟨AA,AA,AA,AA,AA,AA,AA,AA,AA,trivial⟩ ⟨hE,hix,by omega,by omega,fun x hx=>by have:=hil x hx; omega,rfl⟩ ?_
  rintro ⟨rq,cq,j,J,E,ae⟩ e2_ d3 ⟨hE,hix,hj,bV,ai,hfl⟩ bk
  have cY:=b0.via hEA hE
  refine .s<|.g<|.bp ((j:Int)< (ah.length:Int)) (fun cZ=>?_) (fun cZ=>.d<|.s<|.cf<|.x 2 rfl<|.ib 1<|.g<|.it ((k:Int)+1)<|.r 1<|.d<|bN (rq,cq,k+1,J,E,ae) _ _ ⟨AA,AA,AA,AA,AA,trivial⟩ ⟨hE,hix,by omega,by omega,fun x hx=>by have:=ai x hx; omega,RQ hbl (Ai aA) (Em hfl AB)⟩ (by (simp only []; omega)))
  refine .d<|.s<|.ct<|.sk<|.s<|.b 3<|.s<|.g ?_
  have c7:j< ah.length:=AB
  refine .ix j 2 cY c7 ?_
  obtain ⟨C,aB⟩:∃ y,ah[j]? = some y:=⟨_,AU AB⟩
  obtain ⟨_,rfl,c8⟩:=cY.elem j C aB
  refine .lg 0 c8<|.np 67 [.string (bs []),.string (bs [])] fun c9 d4 bv bw da b6=>?_
  have b7:∀ q_∈aa::rq::ae,Nb c9 q_:=fun q_ hq_=>AX bv (hix.lt q_ hq_)
  have bz:ab.heap.size≤c9:=Nat.le_trans hE.size (Nat.le_of_eq (Eq.symm bv))
  replace hix:=hix.ext bw
  replace hE:=hE.trans bw
  refine .sc [vT C.key,vT C.val] da fun db aF aq b8=>?_
  replace hix:=hix.one aF b7 bz
  replace hE:=Chg.EW hE aF ⟨.inr bz⟩
  refine .d<|.s<|.g<|.r 1<|.lb hix.box<|.r 1<|.cl (HH E C (hix.rep.CE (F':=all) (fun _ _ _=>trivial)) aq (w:=db) (F:=all)) ?_
  rintro dF bA ⟨rfl,ar⟩
  replace aq:=aq.ext ar
  replace hix:=hix.ext ar
  replace hE:=hE.trans ar
  refine .r 1<|.d<|.s<|.s<|.g<|.r 1<|.bp (CQ C 0 E< 0) (fun b9=>?_) (fun b9=>?_)
  ·refine .d<|.ct<|.s<|.g<|.r 1<|.lb hix.box<|.r 2<|.d<|.g<|.r 1<|.lb hix.box<|.ln aq<|.r 1<|.ns 1 117 [vT C.key,vT C.val,AH] fun am dG aG aH bB cd=>?_
   have bC:∀ q_∈aa::rq::ae,Nb am q_:=fun q_ hq_=>AX aG (hix.lt q_ hq_)
   have ce:ab.heap.size≤am:=Nat.le_trans hE.size (Nat.le_of_eq (Eq.symm aG))
   replace hix:=hix.ext aH
   replace hE:=hE.trans aH
   have bW:=hix.lx; have de:=hix.lr; have hvl_:=bB.lt; have hge_r:=hix.new rq AJ; have cg:=hix.new aa AI; have hEs:=hE.size
   refine RG.Ax (T:=26) (ty:=26) (y:=(⟨C.key,C.val,none,0,0⟩:RP)) hix.own bB AA AA rfl ⟨trivial,bC rq AJ⟩ AB fun ac bX dH ci bO aI=>?_
   replace hE:=Chg.EW hE aI ⟨.inr hge_r⟩
   refine .r 1<|.ss 1 (vS ac (J.length+1) bX) (hix.box.chg aI (Nb.one hix.ne)) fun bD aJ cj ck=>?_
   replace hix:=hix.push (t:=⟨C.key,C.val⟩) (vb:=am) hEs aI ci bO bC ce hvl_ aJ cj
   replace hE:=Chg.EW hE aJ ⟨.inr cg⟩
   refine .d ?_
   obtain ⟨xi,hxi⟩:∃ q,(E++[(⟨⟨C.key,C.val⟩,[]⟩:Pst)])[J.length]? = some q:=⟨_,AU (by (simp; omega))⟩
   obtain ⟨yi,hyi⟩:∃ q,(J++[(⟨C.key,C.val,none,0,0⟩:RP)])[J.length]? = some q:=⟨_,AU (by (simp; done))⟩
   obtain ⟨ri,hri⟩:∃ q,(ae++[am])[J.length]? = some q:=⟨_,AU (by (simp; omega))⟩
   have hiy:J.length< (J++[(⟨C.key,C.val,none,0,0⟩:RP)]).length:=(List.getElem?_eq_some_iff.1 hyi).1
   have hl3_:aa< bD.heap.size:=hix.lt _ AI; have hlr_:ac< bD.heap.size:=hix.lt _ AJ; have hn3_:=hix.ne3 hri; have hnr_:=hix.ner hri
   refine .gd (mtb [ri] bD.heap.size) 13 fun df aK=>?_
   replace hix:=hix.ext aK
   replace hE:=hE.trans aK
   refine .r [0]<|.lb 1 hix.box (BL (all_cons hn3_ all_nil) hl3_)<|.r [2,3]<|.lb 4 hix.box (BL (all_cons hn3_ all_nil) hl3_)<|.r [5] ?_
   have cm:J.length< (J++[(⟨C.key,C.val,none,0,0⟩:RP)]).length:=AB
   refine GA.idx (i:=6) (b:=ac) (o:=0) J.length (len:=(J++[(⟨C.key,C.val,none,0,0⟩:RP)]).length) (z:=(J.length:Int)) (sz:=3) AA AB cm rfl<|.r [7] ?_
   obtain ⟨_,rfl,aL⟩:=hix.own.elem J.length yi hyi
   replace aL:Has df ⟨ac,0+J.length * Rep.sz RP,none⟩ [vT yi.key,vT yi.val,.slice yi.a yi.n yi.c]:=by rw [Nat.zero_add]; exact aL
   refine .lh 8 2 aL (BL (all_cons hnr_ all_nil) hlr_)<|.r [9]<|GA.int (i:=10) ((k:Int)+1) AA AB<|.go 11<|.ns 1 3 [vI ((k:Int)+1)] fun dI aM=>?_
   replace hix:=hix.ext aM
   replace hE:=hE.trans aM
   intro bE dJ aN aO aP co
   have cp:∀ q_∈aa::ac::(ae++[am]),Nb bE q_:=fun q_ hq_=>AX aN (hix.lt q_ hq_)
   replace hix:=hix.ext aO
   replace hE:=hE.trans aO
   refine .go 12<|GE.append (T:=34) (ty:=34) (args:=[.slice yi.a yi.n yi.c,vS bE 1 1]) AA fun dK au=>?_
   replace aP:=aP.ext au
   replace hix:=hix.ext au
   replace hE:=hE.trans au
   have hyn:=(hix.el J.length xi yi ri hxi hyi hri).2.2.n; have hyl:xi.ids.length≤1000:=by have hm:=AV hxi; (rcases List.mem_append.1 hm with hm | hm; (have:=ai _ hm; omega); (simp at hm; subst hm; simp))
   have bF:=hE.size; have hge_ri:=hix.new ri (IX.mi hri)
   obtain ⟨aC,bm,dL,bG,aQ,bP,af⟩:=J2.app (P:=Tryz.prog) (T:=34) (ty:=34) (hix.el J.length xi yi ri hxi hyi hri).2.2 AA aP (cp ri (IX.mi hri)) AB
   refine ⟨_,_,bG,Chg.toS af (.inl AI),?_⟩
   replace hE:=Chg.EW hE af ⟨.inr hge_ri⟩
   refine .d fun dg av=>?_
   replace af:=Chg.trans af (Ext.chg av)
   replace aQ:=aQ.ext av
   replace hE:=hE.trans av
   have cr:J.length< (J++[(⟨C.key,C.val,none,0,0⟩:RP)]).length:=AB
   refine RG.idx (b:=ac) (o:=0) J.length (len:=(J++[(⟨C.key,C.val,none,0,0⟩:RP)]).length) (i:=(J.length:Int)) (sz:=3) AA AB cr rfl<|.r 1 ?_
   have bH:=PZ Iy hix.own af (Nb.one (hix.ner hri))
   obtain ⟨_,rfl,aR⟩:=bH.elem J.length yi hyi
   replace aR:Has dg ⟨ac,0+J.length * Rep.sz RP,none⟩ [vT yi.key,vT yi.val,.slice yi.a yi.n yi.c]:=by rw [Nat.zero_add]; exact aR
   refine RG.DQ (t':=34) (i:=J.length) (k:=2) (v:=vS aC (yi.n+1) bm) (cs:=[vT yi.key,vT yi.val,.slice yi.a yi.n yi.c]) (⟨yi.key,yi.val,some ⟨aC,0,none⟩,yi.n+1,bm⟩:RP) bH hyi aR AA AA AA rfl fun dM cu aS cw=>?_
   have hge_r2:=hix.new ac AJ
   replace hix:=hix.upd (i:=J.length) (z:=(k:Int)+1) bF hxi hyi hri af aQ bP aS (y':=(⟨yi.key,yi.val,some ⟨aC,0,none⟩,yi.n+1,bm⟩:RP)) rfl cu
   replace hE:=Chg.EW hE aS ⟨.inr hge_r2⟩
   refine .d<|.ib 3<|.g<|.it ((j:Int)+1)<|.r 1<|.d ?_
   have hxN:((E++[(⟨⟨C.key,C.val⟩,[]⟩:Pst)]).set J.length ⟨xi.tag,xi.ids++[(k:Int)+1]⟩)=Gr ((k:Int)+1) E C:=(Sm hxi (by rw [← bW])).trans (Lu ‹_›).symm
   have hbd:=Lw ((k:Int)+1) E C (5 * k+j) bV ai; rw [← hxN] at hbd
   have hfs:=Ed hfl (Ai aB); rw [← hxN] at hfs
   exact bk (ac,bX,j+1,((J++[(⟨C.key,C.val,none,0,0⟩:RP)]).set J.length (⟨yi.key,yi.val,some ⟨aC,0,none⟩,yi.n+1,bm⟩:RP)),((E++[(⟨⟨C.key,C.val⟩,[]⟩:Pst)]).set J.length ⟨xi.tag,xi.ids++[(k:Int)+1]⟩),((ae++[am]).set J.length aC)) _ _ ⟨AA,AA,AA,AA,AA,AA,AA,AA,AA,trivial⟩ ⟨hE,hix,by omega,by have:=hbd.1; omega,fun x hx=>by have:=hbd.2 x hx; omega,hfs⟩ (by (simp only []; omega))
  refine .d<|.cf<|.sk ?_
  have bW:=hix.lx; have de:=hix.lr; have hib:=RO (t:=C) (xs:=E) ‹_›
  obtain ⟨xi,hxi⟩:∃ q,E[(CQ C 0 E).toNat]? = some q:=⟨_,AU AB⟩
  obtain ⟨yi,hyi⟩:∃ q,J[(CQ C 0 E).toNat]? = some q:=⟨_,AU AB⟩
  obtain ⟨ri,hri⟩:∃ q,ae[(CQ C 0 E).toNat]? = some q:=⟨_,AU AB⟩
  have hiy:(CQ C 0 E).toNat< J.length:=(List.getElem?_eq_some_iff.1 hyi).1
  have hl3_:aa< bA.heap.size:=hix.lt _ AI; have hlr_:rq< bA.heap.size:=hix.lt _ AJ; have hn3_:=hix.ne3 hri; have hnr_:=hix.ner hri
  refine .gd (mtb [ri] bA.heap.size) 13 fun dh aT=>?_
  replace hix:=hix.ext aT
  replace hE:=hE.trans aT
  refine .r [0]<|.lb 1 hix.box (BL (all_cons hn3_ all_nil) hl3_)<|.r [2,3]<|.lb 4 hix.box (BL (all_cons hn3_ all_nil) hl3_)<|.r [5] ?_
  have cx:(CQ C 0 E).toNat< J.length:=AB
  refine GA.idx (i:=6) (b:=rq) (o:=0) ((CQ C 0 E).toNat) (len:=J.length) (z:=CQ C 0 E) (sz:=3) AA AB cx rfl<|.r [7] ?_
  obtain ⟨_,rfl,aU⟩:=hix.own.elem ((CQ C 0 E).toNat) yi hyi
  replace aU:Has dh ⟨rq,0+((CQ C 0 E).toNat) * Rep.sz RP,none⟩ [vT yi.key,vT yi.val,.slice yi.a yi.n yi.c]:=by rw [Nat.zero_add]; exact aU
  refine .lh 8 2 aU (BL (all_cons hnr_ all_nil) hlr_)<|.r [9]<|GA.int (i:=10) ((k:Int)+1) AA AB<|.go 11<|.ns 1 3 [vI ((k:Int)+1)] fun dN aV=>?_
  replace hix:=hix.ext aV
  replace hE:=hE.trans aV
  intro bI dO aW aX aY cy
  have cz:∀ q_∈aa::rq::ae,Nb bI q_:=fun q_ hq_=>AX aW (hix.lt q_ hq_)
  replace hix:=hix.ext aX
  replace hE:=hE.trans aX
  refine .go 12<|GE.append (T:=34) (ty:=34) (args:=[.slice yi.a yi.n yi.c,vS bI 1 1]) AA fun dP aw=>?_
  replace aY:=aY.ext aw
  replace hix:=hix.ext aw
  replace hE:=hE.trans aw
  have hyn:=(hix.el (CQ C 0 E).toNat xi yi ri hxi hyi hri).2.2.n; have hyl:xi.ids.length≤1000:=by have hm:=AV hxi; (have:=ai _ hm; omega)
  have bF:=hE.size; have hge_ri:=hix.new ri (IX.mi hri)
  obtain ⟨aD,bn,dQ,bJ,aZ,bQ,ag⟩:=J2.app (P:=Tryz.prog) (T:=34) (ty:=34) (hix.el (CQ C 0 E).toNat xi yi ri hxi hyi hri).2.2 AA aY (cz ri (IX.mi hri)) AB
  refine ⟨_,_,bJ,Chg.toS ag (.inl AI),?_⟩
  replace hE:=Chg.EW hE ag ⟨.inr hge_ri⟩
  refine .d fun dj ax=>?_
  replace ag:=Chg.trans ag (Ext.chg ax)
  replace aZ:=aZ.ext ax
  replace hE:=hE.trans ax
  have cA:(CQ C 0 E).toNat< J.length:=AB
  refine RG.idx (b:=rq) (o:=0) ((CQ C 0 E).toNat) (len:=J.length) (i:=CQ C 0 E) (sz:=3) AA AB cA rfl<|.r 1 ?_
  have bK:=PZ Iy hix.own ag (Nb.one (hix.ner hri))
  obtain ⟨_,rfl,ba⟩:=bK.elem ((CQ C 0 E).toNat) yi hyi
  replace ba:Has dj ⟨rq,0+((CQ C 0 E).toNat) * Rep.sz RP,none⟩ [vT yi.key,vT yi.val,.slice yi.a yi.n yi.c]:=by rw [Nat.zero_add]; exact ba
  refine RG.DQ (t':=34) (i:=((CQ C 0 E).toNat)) (k:=2) (v:=vS aD (yi.n+1) bn) (cs:=[vT yi.key,vT yi.val,.slice yi.a yi.n yi.c]) (⟨yi.key,yi.val,some ⟨aD,0,none⟩,yi.n+1,bn⟩:RP) bK hyi ba AA AA AA rfl fun dR cB bc cC=>?_
  have hge_r2:=hix.new rq AJ
  replace hix:=hix.upd (i:=(CQ C 0 E).toNat) (z:=(k:Int)+1) bF hxi hyi hri ag aZ bQ bc (y':=(⟨yi.key,yi.val,some ⟨aD,0,none⟩,yi.n+1,bn⟩:RP)) rfl cB
  replace hE:=Chg.EW hE bc ⟨.inr hge_r2⟩
  refine .d<|.ib 3<|.g<|.it ((j:Int)+1)<|.r 1<|.d ?_
  have hxN:(E.set ((CQ C 0 E).toNat) ⟨xi.tag,xi.ids++[(k:Int)+1]⟩)=Gr ((k:Int)+1) E C:=(Lv ‹_› hxi).symm
  have hbd:=Lw ((k:Int)+1) E C (5 * k+j) bV ai; rw [← hxN] at hbd
  have hfs:=Ed hfl (Ai aB); rw [← hxN] at hfs
  exact bk (rq,cq,j+1,(J.set ((CQ C 0 E).toNat) (⟨yi.key,yi.val,some ⟨aD,0,none⟩,yi.n+1,bn⟩:RP)),(E.set ((CQ C 0 E).toNat) ⟨xi.tag,xi.ids++[(k:Int)+1]⟩),(ae.set ((CQ C 0 E).toNat) aD)) _ _ ⟨AA,AA,AA,AA,AA,AA,AA,AA,AA,trivial⟩ ⟨hE,hix,by omega,by have:=hbd.1; omega,fun x hx=>by have:=hbd.2 x hx; omega,hfs⟩ (by (simp only []; omega))
 refine .d<|.s<|.cf<|.x 0 rfl<|.s<|.g<|.r 1 ?_
 have hEw:=hEc.trans hE; have hb2n:=hb2c.ext hE; have hb2l:=hb2c.lt; have hoP:=hix.Tm hb2l; have hNn:=hix.Sl; have hb3n:=hix.box; have hn3r:=hix.ne
 have dS:Nb aa W:=Ah (hix.new _ AI) hb2l; have dT:Nb r W:=Ah (hix.new _ AJ) hb2l
 have hgr:Gb w.heap.size r:=Nat.le_trans bZ (hix.new _ AJ)
 have hbe:=Sn hbl AB
 refine .lb hb3n<|.cl (Hv hoP (by rw [hix.lx,hbe]; exact p2)) ?_
 rintro dU dm ⟨rfl,cD,hperm_,hsort_,bd,bg⟩
 replace ⟨hNn,hb3n,hb2n⟩:=(so [aa,r,W] bg).g3 hNn hb3n hb2n
 replace hEw:Chg nil w dm:=Chg.EW hEw bg ⟨.inr hgr⟩
 refine .d<|.s<|.g<|.ln hb3n<|.sc [vS bo bL bM,vS r ys.length c] hb2n fun bY bh cE cF=>?_
 replace ⟨hNn,bd,hb3n⟩:=(so [aa,r,W] bh).g3 hNn bd hb3n
 replace hEw:Chg nil w bY:=Chg.EW hEw bh ⟨.inr cI⟩
 refine .d ?_
 have dp:=bd.sl hgr
 replace hNn:=(sd bY [aa,r,W] r).g1 hNn
 exact .rb func78 results78 cE ⟨⟨((⟨names,cD⟩:Idx):Idx),⟨_,rfl,⟨_,_,_,_,_,_,rfl,hNn.w1,dp.w1⟩⟩,(by exact ⟨rfl,fun a b=>Pe a b hperm_ hsort_ hbe⟩)⟩,hEw⟩
theorem CG (names:List (List Tag)) (h1:RepS w F a1 n1 c1 names) (p0:NmI names) (p1:NsD names):Calls Tryz.prog 78 [.slice a1 n1 c1].toArray w (BB fun rv w'=>VS (ge w.heap.size) w' (idxOf names:Idx) rv∧Ext w w'):=by
 refine (FZ names h1 (by have:=p0.len; omega) (fun n hn=>(p1 n hn).1) (Pd p0 p1)).mono ?_
 rintro e w' ⟨v,rfl,⟨y,hv,hy⟩,hx⟩
 exact ⟨v,rfl,by rw [← hy.2 p0 p1]; exact hv,hx⟩
end Go.Proofs.YtggnnidleedpaaaGreat
namespace Go.Proofs.YtggnnidleedpaaaGreat
theorem So {t:Tag}(h:Bq t=true):∃ x y,t=⟨[x],[y]⟩:=by
 obtain ⟨k,v⟩:=t
 simp only [Bq,AW] at h
 have h1:k.length=1:=Dh h.1
 have h2:v.length=1:=Dh h.2
 match k,v,h1,h2 with
 | [x],[y],_,_=>exact ⟨x,y,rfl⟩
theorem OU:∀ (n m:List Tag) (i:Nat),(∀ t∈n,Bq t=true)→(∀ t∈m,Bq t=true)→Fj i n=Fj i m→n=m:=by
 intro n
 induction n with
 | nil =>
   intro m i _ hm h
   cases m with
   | nil=>rfl
   | cons t ts =>
     obtain ⟨x,y,rfl⟩:=So (hm t AD)
     simp [Fj,KC] at h
 | cons t ts ih =>
   intro m i hn hm h
   obtain ⟨x,y,rfl⟩:=So (hn t AD)
   cases m with
   | nil=>simp [Fj,KC] at h
   | cons u us =>
     obtain ⟨x',y',rfl⟩:=So (hm u AD)
     simp only [Fj,KC,List.append_assoc] at h
     have h2:=List.append_cancel_left h
     simp only [List.cons_append,List.nil_append,List.cons.injEq,true_and] at h2
     obtain ⟨rfl,rfl,h3⟩:=h2
     rw [ih us (i+1) (fun t ht=>hn t (by simp [ht])) (fun t ht=>hm t (by simp [ht])) h3]
theorem IL {n:List Tag}(h:BC n=true):∀ t∈n,Bq t=true:=by
 simp only [BC,AW] at h
 exact EZ n none h.1
theorem Ly {n m:List Tag}(hn:BC n=true) (hm:BC m=true) (h:text n=text m):n=m:=OU n m 0 (IL hn) (IL hm) h
theorem Sq {names:List (List Tag)}{n:List Tag}(h:∀ m∈names,BC m=true) (hn:BC n=true):∀ i,nmF (text n) i names=DI n i names+1:=by
 induction names with
 | nil=>intro i; rfl
 | cons x xs ih =>
   intro i
   unfold nmF DI
   by_cases hx:x=n
   ·rw [if_pos (by simp [hx]),if_pos (by simp [hx])]
   ·have h1:¬ (text x==text n)=true:=fun e=>hx (Ly (h x AD) hn (eq_of_beq e))
    have h2:¬ (x==n)=true:=fun e=>hx (eq_of_beq e)
    rw [if_neg h1,if_neg h2]
    exact ih (fun m hm=>h m (by simp [hm])) (i+1)
theorem F0 {x:Idx}{n:List Tag}(h:NmI x.names) (hn:BC n=true):Fe x n=DI n 0 x.names+1:=Sq h.ok hn 0
def CD (x:Idx) (n:List Tag):Idx × Int × Bool:=if BC n=true then Bu x n else (⟨[],[]⟩,0,false)
theorem LF {x:Idx}{n:List Tag}(h:BC n=false):CD x n=(⟨[],[]⟩,0,false):=by unfold CD; rw [if_neg (by simp [h])]
theorem GK {x:Idx}{n:List Tag}(h:BC n=true):CD x n=Bu x n:=by unfold CD; rw [if_pos h]
theorem JU {x:Idx}{n:List Tag}(hx:IxI x) (h:BC n=true) (h1:DI n 0 x.names+1 > 0):CD x n=(idxOf x.names,DI n 0 x.names+1,true):=by
 rw [GK h,Fo (by rw [F0 hx.nm h]; exact h1),F0 hx.nm h,← hx.eq]
theorem Hx {x:Idx}{n:List Tag}(hx:IxI x) (h:BC n=true) (h1:¬ DI n 0 x.names+1 > 0) (h2:(x.names.length:Int)=6):CD x n=(idxOf x.names,0,false):=by
 rw [GK h,Ei (by rw [F0 hx.nm h]; exact h1) (.inr AB),← hx.eq]
theorem FA {x:Idx}{n:List Tag}(hx:IxI x) (h:BC n=true) (h1:¬ DI n 0 x.names+1 > 0) (h2:(x.names.length:Int)≠6):CD x n=(idxOf (x.names++[n]),(x.names.length:Int)+1,true):=by
 rw [GK h,Fp (by rw [F0 hx.nm h]; exact h1) h (by have:=hx.nm.len; omega)]
theorem NmI.Tq {x:Idx}{n:List Tag}(hx:IxI x) (h:BC n=true) (h1:¬ DI n 0 x.names+1 > 0) (h2:(x.names.length:Int)≠6):NmI (x.names++[n]):=by
 refine NmI.add (ps:=x.AY) hx.nm h ?_ (by have:=hx.nm.len; omega)
 have:=F0 (x:=⟨x.names,x.AY⟩) hx.nm h
 rw [this]; exact h1
theorem NsD.add {names:List (List Tag)}{n:List Tag}(h:NsD names) (hn:NmD n):NsD (names++[n]):=fun m hm=>by
 rcases List.mem_append.1 hm with hm | hm
 ·exact h m hm
 ·simp at hm; rw [hm]; exact hn
theorem KV:∀ (is:List Int) (bs:List (List Row)) (o:Option Int),CA o is bs=true→(∀ q,o=some q→∀ i∈is,q< i)∧∀ m,Js m is=(match is.getLast? with | some l=>if l > m then l else m | none=>m)∨is=[]:=by
 intro is
 induction is with
 | nil=>intro bs o _; exact ⟨fun _ _ i hi=>(by cases hi),fun m=>.inr rfl⟩
 | cons x xs ih =>
   intro bs o h
   cases bs with
   | nil=>simp [CA] at h
   | cons b bs =>
     simp only [CA,AW] at h
     obtain ⟨⟨⟨⟨_,h2⟩,_⟩,_⟩,h5⟩:=h
     obtain ⟨g1,g2⟩:=ih bs (some x) h5
     refine ⟨fun q hq i hi=>?_,fun m=>.inl ?_⟩
     ·subst hq
      have hqx:q< x:=by simpa using h2
      rcases List.mem_cons.1 hi with rfl | hi
      ·exact hqx
      ·have:=g1 x rfl i hi; omega
     ·unfold Js
      rcases g2 (if x > m then x else m) with g | g
      ·rw [g]
       cases hl:xs.getLast? with
       | none =>
         have:xs=[]:=List.getLast?_eq_none_iff.1 hl
         subst this
         simp
       | some l =>
         have hlm:=g1 x rfl l (List.mem_of_getLast? hl)
         have e:(x::xs).getLast? = some l:=by rw [List.getLast?_cons,hl]; rfl
         rw [e]
         simp only
         repeat' split
         all_goals omega
      ·subst g
       simp [Js]
theorem JV {p:Prt}{n:Int}(h:Az p=true) (h0:(p.ids.length:Int)≠0):Bw p n = !decide (maxOf p.ids > n):=by
 unfold Bw
 rw [h,Bool.true_and]
 unfold Az at h
 simp only [AW,decide_eq_true_eq] at h
 match hi:p.ids,h.2 with
 | [],_=>rw [hi] at h0; simp at h0
 | x :: xs, hg =>
   cases hb:p.blocks with
   | nil=>rw [hb] at hg; simp [CA] at hg
   | cons b bs =>
     rw [hb] at hg
     simp only [CA,AW] at hg
     obtain ⟨g1,g2⟩:=KV xs bs (some x) hg.2
     show (match (x::xs).getLast? with | some i=>decide (i≤n) | none=>false) = !decide (Js x xs > n)
     rcases g2 x with g | g
     ·rw [g]
      cases hl:xs.getLast? with
      | none =>
        have:xs=[]:=List.getLast?_eq_none_iff.1 hl
        subst this
        simp only [List.getLast?_singleton]
        rw [Bool.eq_iff_iff]; simp
      | some l =>
        have hlm:=g1 x rfl l (List.mem_of_getLast? hl)
        have e:(x::xs).getLast? = some l:=by rw [List.getLast?_cons,hl]; rfl
        rw [e]
        simp only
        simp only [show l > x from hlm,if_true]
        rw [Bool.eq_iff_iff]; simp
     ·subst g
      simp only [List.getLast?_singleton,Js]
      rw [Bool.eq_iff_iff]; simp
theorem Pf {p:Prt}{n:Int}(h:Az p=false):Bw p n=false:=by unfold Bw; rw [h]; rfl
theorem Pg {p:Prt}{n:Int}(h:(p.ids.length:Int)=0):Bw p n=false:=by
 have:p.ids=[]:=List.eq_nil_of_length_eq_zero AB
 unfold Bw; rw [this]; simp
theorem Ph {p:Prt}{n:Int}(h:Az p=true) (h0:(p.ids.length:Int)≠0) (h1:maxOf p.ids > n):Bw p n=false:=by rw [JV h h0]; simp [h1]
theorem Pj {p:Prt}{n:Int}(h:Az p=true) (h0:(p.ids.length:Int)≠0) (h1:¬ maxOf p.ids > n):Bw p n=true:=by rw [JV h h0]; simp [h1]
theorem Dz {p:Prt}{n:Int}(h:Bw p n=true):Az p=true:=by
 unfold Bw at h
 simp only [AW] at h
 exact h.1
structure StoK (s:Sto):Prop where
 sd:SD s
 part:∀ p∈s.parts,PrtI p∧Az p=true
 row:∀ m∈s.mem,Bi m.row=true
 id:∀ m∈s.mem,1≤m.id∧m.id≤s.idx.names.length
 nm2:s.mem.length≤20
theorem StoK.of {s:Sto}(h:SD s) (hk:Al s=true):StoK s:=by
 unfold Al at hk
 simp only [AW,decide_eq_true_eq,List.all_eq_true] at hk
 obtain ⟨⟨⟨⟨_,h2⟩,h3⟩,h4⟩,_⟩:=hk
 refine ⟨h,fun p hp=>⟨h.part p hp,Dz (h3 p hp)⟩,fun m hm=>?_,fun m hm=>?_,h2⟩
 ·have:=h4 m hm
  unfold EI at this
  simp only [AW] at this
  exact this.2
 ·have:=h4 m hm
  unfold EI at this
  simp only [AW] at this
  exact CF this.1
theorem StoK.JW {s:Sto}(h:StoK s):StoI s:=⟨h.sd.idx,h.sd.nm,h.sd.np,h.sd.part,h.nm2,fun m hm=>⟨(h.id m hm).1,(h.id m hm).2,h.row m hm⟩⟩
theorem StoK.pt {s:Sto}(h:SD s) (h3:s.parts.all (fun p=>Bw p s.idx.names.length)=true):∀ p∈s.parts,PrtI p∧Az p=true:=fun p hp=>⟨h.part p hp,Dz (List.all_eq_true.1 h3 p hp)⟩
theorem StoK.rw {s:Sto}(h4:s.mem.all (EI s.idx.names.length)=true):∀ m∈s.mem,Bi m.row=true:=fun m hm=>by
 have:=List.all_eq_true.1 h4 m hm
 unfold EI at this
 simp only [AW] at this
 exact this.2
def Ge (s:Sto) (id:Int):List Row:=if Al s=true∧inR id 1 s.idx.names.length=true then rowsOf s id else []
theorem OV {s:Sto}{id:Int}(h:Al s=true) (h2:inR id 1 s.idx.names.length=true):Ge s id=rowsOf s id:=by unfold Ge; rw [if_pos ⟨h,h2⟩]
section
variable {s:Sto} {n:List Tag} {r:Row}
theorem Sr (_h:SD s) (hn:BC n=true) (h1:(CD s.idx n).2.2=false):CI s n r=(s,false):=by rw [GK hn] at h1; exact Mg h1
theorem Ss (_h:SD s) (_hn:BC n=true) (h1:Bi r=false):CI s n r=(s,false):=Mh h1
theorem St (_h:SD s) (_hn:BC n=true) (h1:(s.mem.length:Int)=20):CI s n r=(s,false):=Mi AB
theorem SI (h:Al s=true):s.mem.length≤20:=by
 unfold Al at h
 simp only [AW,decide_eq_true_eq] at h
 exact h.1.1.1.2
theorem Su (_h:SD s) (hk:Al s=true) (hn:BC n=true) (h1:(CD s.idx n).2.2=true) (h2:Bi r=true) (h3:(s.mem.length:Int)≠20)
 (h4:((rowsOf (⟨⟨(CD s.idx n).1.names,(CD s.idx n).1.AY⟩,(Am s).parts,(Am s).mem++[⟨(CD s.idx n).2.1,r⟩]⟩:Sto) (CD s.idx n).2.1).length:Int) > 24):CI s n r=(s,false):=by
 rw [GK hn] at h1 h4
 have:=SI hk
 exact Mj h1 h2 AB h4
theorem Sv (_h:SD s) (hk:Al s=true) (hn:BC n=true) (h1:(CD s.idx n).2.2=true) (h2:Bi r=true) (h3:(s.mem.length:Int)≠20)
 (h4:¬ ((rowsOf (⟨⟨(CD s.idx n).1.names,(CD s.idx n).1.AY⟩,(Am s).parts,(Am s).mem++[⟨(CD s.idx n).2.1,r⟩]⟩:Sto) (CD s.idx n).2.1).length:Int) > 24):CI s n r=(⟨(CD s.idx n).1,s.parts,s.mem++[⟨(CD s.idx n).2.1,r⟩]⟩,true):=by
 rw [GK hn] at h1 h4 ⊢
 have:=SI hk
 exact Mk h1 h2 AB h4
theorem Pk (h:SD s) (hk:Al s=true) (hn:BC n=true) (h1:(CD s.idx n).2.2=false):Bd s n r=(Am s,false):=by rw [Fw hk hn,h.copy]; exact Sr h hn h1
theorem Pl (h:SD s) (hk:Al s=true) (hn:BC n=true) (h1:Bi r=false):Bd s n r=(Am s,false):=by rw [Fw hk hn,h.copy]; exact Ss h hn h1
theorem Pm (h:SD s) (hk:Al s=true) (hn:BC n=true) (h1:(s.mem.length:Int)=20):Bd s n r=(Am s,false):=by rw [Fw hk hn,h.copy]; exact St h hn h1
theorem Pn (h:SD s) (hk:Al s=true) (hn:BC n=true) (h1:(CD s.idx n).2.2=true) (h2:Bi r=true) (h3:(s.mem.length:Int)≠20)
 (h4:((rowsOf (⟨⟨(CD s.idx n).1.names,(CD s.idx n).1.AY⟩,(Am s).parts,(Am s).mem++[⟨(CD s.idx n).2.1,r⟩]⟩:Sto) (CD s.idx n).2.1).length:Int) > 24):Bd s n r=(Am s,false):=by
 rw [Fw hk hn,h.copy]; exact Su h hk hn h1 h2 h3 h4
theorem Po (h:SD s) (hk:Al s=true) (hn:BC n=true) (h1:(CD s.idx n).2.2=true) (h2:Bi r=true) (h3:(s.mem.length:Int)≠20)
 (h4:¬ ((rowsOf (⟨⟨(CD s.idx n).1.names,(CD s.idx n).1.AY⟩,(Am s).parts,(Am s).mem++[⟨(CD s.idx n).2.1,r⟩]⟩:Sto) (CD s.idx n).2.1).length:Int) > 24):Bd s n r=(⟨(CD s.idx n).1,(Am s).parts,(Am s).mem++[⟨(CD s.idx n).2.1,r⟩]⟩,true):=by
 have:=Sv h hk hn h1 h2 h3 h4
 rw [Fw hk hn,h.copy]
 exact this
theorem RR {i:Int}(h:StoK s) (hr:Bi r=true):∀ m∈(Am s).mem++[⟨i,r⟩],Bi m.row=true:=fun m hm=>by
 rcases List.mem_append.1 hm with hm | hm
 ·exact h.row m hm
 ·simp at hm; subst hm; exact hr
end
end Go.Proofs.YtggnnidleedpaaaGreat
namespace Go.Proofs.YtggnnidleedpaaaGreat
def nmB (names:List (List Tag)):Bool:=decide (names.length≤6)&&names.all BC&&decide ((names.map text).Nodup)
theorem Dk {names:List (List Tag)}:nmB names=true↔NmI names:=by
 unfold nmB
 simp only [AW,decide_eq_true_eq,List.all_eq_true]
 exact ⟨fun h=>⟨h.1.1,h.1.2,h.2⟩,fun h=>⟨⟨h.len,h.ok⟩,h.nodup⟩⟩
theorem Pp {names:List (List Tag)}(h:¬ NmI names):nmB names=false:=by
 cases hb:nmB names with
 | false=>rfl
 | true=>exact absurd (Dk.1 hb) h
structure NmG (names:List (List Tag)):Prop where
 len:names.length≤7
 nd:NsD names
 bl:(HJ 0 [] names).length≤12
theorem NmG.of {names:List (List Tag)}(h:NmI names) (h2:NsD names):NmG names:=⟨by have:=h.len; omega,h2,Pd h h2⟩
theorem NmG.sz {names:List (List Tag)}(h:NmG names):∀ n∈names,Fc n:=fun n hn=>(h.nd n hn).sz
theorem NmG.l5 {names:List (List Tag)}(h:NmG names):∀ n∈names,n.length≤5:=fun n hn=>(h.nd n hn).1
theorem Pq {names:List (List Tag)}(h:∀ (i j:Nat) (x y:List Tag),i< j→names[i]? = some x→names[j]? = some y→text x≠text y):(names.map text).Nodup:=by
 unfold List.Nodup
 rw [List.pairwise_iff_getElem]
 intro i j hi hj hij
 rw [List.getElem_map,List.getElem_map]
 exact h i j _ _ hij (AU _) (AU _)
def Pr (names:List (List Tag)) (k:Nat):Prop:=∀ j n,j< k→names[j]? = some n→BC n=true∧DI n 0 names=j
theorem Sw (names:List (List Tag)):Pr names 0:=fun j _ h=>absurd h AB
theorem OW {names:List (List Tag)}{k:Nat}{n:List Tag}(h:Pr names k) (hn:names[k]? = some n) (h1:BC n=true) (h2:DI n 0 names+1=(k:Int)+1):Pr names (k+1):=fun j m hj hm=>by
 by_cases e:j=k
 ·subst e
  rw [hn] at hm
  cases hm
  exact ⟨h1,by omega⟩
 ·exact h j m AB hm
theorem Np {names:List (List Tag)}{k:Nat}{n:List Tag}(hn:names[k]? = some n) (h:BC n=false∨DI n 0 names+1≠(k:Int)+1):false=nmB names:=(Pp (fun hI=>RJ hI hn h)).symm
theorem Ps {names:List (List Tag)}{k:Nat}(h:Pr names k) (hk:names.length≤k):decide ((names.length:Int)≤6)=nmB names:=by
 unfold nmB
 have h1:names.all BC=true:=List.all_eq_true.2 (fun n hn=>by
  obtain ⟨j,hj⟩:=List.mem_iff_getElem?.1 hn
  exact (h j n (by have:=(List.getElem?_eq_some_iff.1 hj).1; omega) hj).1)
 have h2:(names.map text).Nodup:=Pq (fun i j x y hij hx hy e=>by
  have hj:=(List.getElem?_eq_some_iff.1 hy).1
  have a:=h i x AB hx
  have b:=h j y AB hy
  have:=Ly a.1 b.1 e
  subst this
  omega)
 rw [h1,decide_eq_true h2,Bool.and_true,Bool.and_true,decide_eq_decide]
 omega
def apart (names:List (List Tag)) (n:List Tag) (k:Nat):Prop:=∀ i m,i< k→names[i]? = some m→text n≠text m
theorem RS {names:List (List Tag)}(h:(names.length:Int) > 6):false=nmB names:=(Pp (fun hI=>by have:=hI.len; omega)).symm
structure IxG (x:Idx):Prop where
 g:NmG x.names
 eq:NmI x.names→x=idxOf x.names
theorem IxG.ix {x:Idx}(h:IxG x) (h2:NmI x.names):IxI x:=⟨h.eq h2,h2⟩
structure SG (s:Sto):Prop where
 ix:IxG s.idx
 np:s.parts.length≤7
 part:∀ p∈s.parts,PrtI p
 nm2:s.mem.length≤21
 mem:∀ m∈s.mem,0≤m.id∧m.id≤7∧Ek m.row
theorem SG.pt {s:Sto}(h:SG s) (h3:s.parts.all (fun p=>Bw p s.idx.names.length)=true):∀ p∈s.parts,PrtI p∧Az p=true:=fun p hp=>⟨h.part p hp,Dz (List.all_eq_true.1 h3 p hp)⟩
theorem SG.of {s:Sto}(h:SD s):SG s:=⟨⟨NmG.of h.nm h.nd,fun _=>h.idx⟩,by have:=h.np; omega,h.part,h.nm2,h.mem⟩
theorem SG.sd {s:Sto}(h:SG s) (h2:nmB s.idx.names=true) (h3:s.parts.length≤6):SD s:=⟨h.ix.eq (Dk.1 h2),Dk.1 h2,h.ix.g.nd,h3,h.part,h.nm2,h.mem⟩
end Go.Proofs.YtggnnidleedpaaaGreat
namespace Go.Proofs.YtggnnidleedpaaaGreat
set_option maxRecDepth 100000
set_option maxHeartbeats 4000000
variable {w:World} {F:Nat→Prop} {a1 a2 a3 a4:Option Addr} {n1 c1 n2 c2 n3 c3 n4 c4:Nat}
theorem Ic (names:List (List Tag)) (h1:RepS w F a1 n1 c1 names) (p0:NmG names):Calls Tryz.prog 129 [.slice a1 n1 c1].toArray w (BB fun rv w'=>rv=.bool (nmB names)∧Ext w w'):=by
 refine goT func129 ?_
 obtain ⟨rfl,aq,h1⟩:=h1.tp
 refine .s<|.g<|.r 1<|.d<|.s<|.s<|.g<|.r 3<|.d<|.b 0<|T.loop (X:=Nat) 0 (fun k=>[(0,.slice a1 names.length c1),(5,.slice a1 names.length c1),(6,vI (names.length:Int)),(7,vI (k:Int))]) (fun k W=>Chg (ins []) w W∧(k≤names.length)∧(Pr names k)) (fun k=>names.length - k) AA ⟨AA,AA,AA,AA,trivial⟩ ⟨Chg.refl _ _,AD,(by exact Sw _)⟩ ?_
 rintro k ay W ⟨C,ar,au⟩ aa
 have ae:Mv [] [] w W:=Mv.inl C all_nil all_nil
 replace h1:=(sp ae C).g1 h1
 have E:Chg nil w W:=Chg.Cr (Chg.refl nil w) C all_nil
 refine .s<|.g<|.bp ((k:Int)< (names.length:Int)) (fun ah=>?_) (fun ah=>.d<|.s<|.cf<|.x 0 rfl<|.s<|.g<|.r 4<|.d<|.rt func129 results129 (.bool (decide ((names.length:Int)≤6))) ⟨(AG (by exact Ps ‹_› AB)),E⟩)
 refine .d<|.s<|.ct<|.sk<|.s<|.b 1<|.s<|.g<|.r 1 ?_
 have ai:k< names.length:=AB
 refine .ix k 1 h1 ai ?_
 obtain ⟨ab,ac⟩:∃ y,names[k]? = some y:=⟨_,AU AB⟩
 obtain ⟨_,⟨az,aA,aB,rfl,J⟩,aj⟩:=h1.elem k ab ac
 have ak:=J.len
 subst ak
 refine .lh 0 aj<|.r 2<|.d<|.s<|.g<|.r 1<|.cl (Et ab J.ta (w:=W) (F:=all)) ?_
 rintro aC ao ⟨rfl,af⟩
 replace ⟨h1,J,E,C⟩:=(se [] af).g4 h1 J E C
 cases ax:(BC ab)
 ·exact .r 9<|.d<|.ct<|.s<|.g<|.r 1<|.d<|.rt func129 results129 (.bool false) ⟨(AG (by exact Np ‹_› (.inl ‹_›))),E⟩
 refine .r 4<|.cl (FY names ab h1.ta J.ta (w:=ao) (F:=all)) ?_
 rintro aD aE ⟨rfl,ag⟩
 replace ⟨E,C⟩:=(se [] ag).g2 E C
 exact .r 1<|.it ((k:Int)+1)<|.ne (DI ab 0 names+1) ((k:Int)+1) (fun al=>.r 1<|.d<|.ct<|.s<|.g<|.r 1<|.d<|.rt func129 results129 (.bool false) ⟨(AG (by exact Np ‹_› (.inr ‹_›))),E⟩) fun al=>.r 1<|.d<|.cf<|.sk<|.ib 1<|.g<|.it ((k:Int)+1)<|.r 1<|.d<|aa (k+1) _ _ ⟨AA,AA,AA,AA,trivial⟩ ⟨C,AB,(by exact OW ‹_› ‹_› ‹_› ‹_›)⟩ AB
theorem Fa (ix:Idx) (h1:RepS w F a1 n1 c1 ix.names) (h2:RepS w F a2 n2 c2 ix.AY) (p0:IxG ix):Calls Tryz.prog 85 [.agg #[.slice a1 n1 c1,.slice a2 n2 c2]].toArray w (BB fun rv w'=>rv=.bool (nmB ix.names)∧Ext w w'):=by
 refine goT func85 ?_
 obtain ⟨rfl,ax,h1⟩:=h1.tp
 obtain ⟨rfl,ay,h2⟩:=h2.tp
 refine .s<|.g<|.np 28 [.slice a1 ix.names.length c1,.slice a2 ix.AY.length c2] fun W aC ag aa E ao=>?_
 replace ⟨h1,h2⟩:=(sn [] aa ag).g2 h1 h2
 have C:=aa
 refine .r 1<|.d<|.s<|.gd nil 10 fun aD ah=>?_
 replace ⟨h1,h2,E,C⟩:=(se [W] ah).g4 h1 h2 E C
 refine .r [0]<|.lb 1 E id<|GA.Dt (i:=2) AA (fun av aq=>Ic ix.names (h1.ta.ext aq) p0.g (w:=av) (F:=all)) ?_
 cases az:(nmB ix.names)
 ·refine .r [3]<|GA.skip AA fun aE ai=>?_
  replace ⟨h1,h2,E,C⟩:=(se [W] ai).g4 h1 h2 E C
  exact .r 3<|.d<|.rt func85 results85 (.bool false) ⟨(AG AF),C⟩
 refine .r [3,4]<|.lb 5 E id<|.r [6]<|.lb 7 E id<|.go 8<|.cl (fun am ab=>CG ix.names (h1.ta.ext ab) (Dk.1 ‹_›) p0.g.nd (w:=am) (F:=all)) ?_
 intro am ab
 replace ⟨h2,E,C⟩:=(se [W] ab).g3 h2 E C
 rintro aF aG ⟨⟨_,rfl,⟨aH,aI,aJ,aK,aL,aM,rfl,af,J⟩⟩,ac⟩
 have ae:=al1 E.lt
 have aj:Gb w.heap.size am.heap.size:=C.size
 have hkeep_:=ac
 replace ⟨h2,C⟩:=(se [W] ac).g2 h2 C
 refine ⟨Ext.chg hkeep_,?_⟩
 have af:=af.fr ae aj
 have aA:=af.max
 have J:=J.fr ae aj
 have aB:=J.max
 have ar:=af.len
 subst ar
 have au:=J.len
 subst au
 refine .r [9]<|.d fun aw ak=>?_
 replace ⟨h2,J,C⟩:=(se [W] ak).g3 h2 J C
 refine .cl (HI ix.AY ((idxOf ix.names).AY) h2.ta J.ta (w:=aw) (F:=all)) ?_
 rintro aN aO ⟨rfl,al⟩
 replace C:=(se [] al).g1 C
 exact .r 2<|.d<|.rt func85 results85 (.bool (ix.AY==((idxOf ix.names).AY))) ⟨(AG (by (have p9:=p0.ix (Dk.1 ‹_›); rw [p9.AY]; simp [idxOf]; done))),C⟩
theorem EF (s:Sto) (h1:RepS w F a1 n1 c1 s.idx.names) (h2:RepS w F a2 n2 c2 s.idx.AY) (h3:RepS w F a3 n3 c3 s.parts) (h4:RepS w F a4 n4 c4 s.mem) (p0:SG s):Calls Tryz.prog 47 [.agg #[.slice a1 n1 c1,.slice a2 n2 c2,.slice a3 n3 c3,.slice a4 n4 c4]].toArray w (BB fun rv w'=>rv=.bool (nmB s.idx.names&&Al s)∧Ext w w'):=by
 refine goT func47 ?_
 obtain ⟨rfl,bZ,h1⟩:=h1.tp
 obtain ⟨rfl,b0,h2⟩:=h2.tp
 obtain ⟨rfl,b6,h3⟩:=h3.tp
 obtain ⟨rfl,b7,h4⟩:=h4.tp
 refine .s<|.g<|.np 32 [.slice a1 s.idx.names.length c1,.slice a2 s.idx.AY.length c2,.slice a3 s.parts.length c3,.slice a4 s.mem.length c4] fun J bE aJ ar E bd=>?_
 replace ⟨h1,h2,h3,h4⟩:=(sn [] ar aJ).g4 h1 h2 h3 h4
 have C:=ar
 refine .r 1<|.d<|.s<|.s<|.g<|.r 1<|.ln E<|.cl (Fa s.idx h1.ta h2.ta p0.ix (w:=bE) (F:=all)) ?_
 rintro cF bg ⟨rfl,aK⟩
 replace ⟨h1,h2,h3,h4,E,C⟩:=(se [J] aK).g6 h1 h2 h3 h4 E C
 cases b8:(nmB s.idx.names)
 ·exact .r 13<|.d<|.ct<|.s<|.g<|.r 1<|.d<|.rt func47 results47 (.bool false) ⟨(AG AF),C⟩
 refine .r 3<|.lb E<|.r 1<|.bp ((s.parts.length:Int) > 6) (fun bh=>.r 7<|.d<|.ct<|.s<|.g<|.r 1<|.d<|.rt func47 results47 (.bool false) ⟨(AG (by (rw [Bool.true_and]; symm; exact KO AB))),C⟩) fun bh=>.r 3<|.lb E<|.r 1<|.bp ((s.mem.length:Int) > 20) (fun bi=>.r 1<|.d<|.ct<|.s<|.g<|.r 1<|.d<|.rt func47 results47 (.bool false) ⟨(AG (by (rw [Bool.true_and]; symm; exact KO AB))),C⟩) fun bi=>.r 1<|.d<|.cf<|.sk<|.s<|.g<|.r 2<|.lb E<|.r 2<|.d<|.s<|.s<|.g<|.r 1<|.lb E<|.r 2<|.d<|.b 0<|T.loop (X:=Nat) 0 (fun k=>[(1,.pointer (some ⟨J,0,none⟩)),(3,vI (s.idx.names.length:Int)),(30,.slice a3 s.parts.length c3),(31,vI (s.parts.length:Int)),(32,vI (k:Int))]) (fun k au=>Chg (ins []) bg au∧(k≤s.parts.length)∧((s.parts.drop k).all (fun p=>Bw p s.idx.names.length)=s.parts.all (fun p=>Bw p s.idx.names.length))∧(nmB s.idx.names=true)) (fun k=>s.parts.length - k) AA ⟨AA,AA,AA,AA,AA,trivial⟩ ⟨Chg.refl _ _,AD,AF,‹_›⟩ ?_
 rintro k cG au ⟨W,b9,cd,ce⟩ av
 have aL:Mv [J] [J] bg au:=Mv.inl W all_nil (all_cons (.inl AI) all_nil)
 replace ⟨h1,h2,h3,h4,E,C⟩:=(sp aL W).g6 h1 h2 h3 h4 E C
 refine .s<|.g<|.bp ((k:Int)< (s.parts.length:Int)) (fun bj=>?_) (fun bj=>?_)
 ·refine .d<|.s<|.ct<|.sk<|.s<|.b 1<|.s<|.g ?_
  have bk:k< s.parts.length:=AB
  refine .ix k 2 h3 bk ?_
  obtain ⟨ah,aw⟩:∃ y,s.parts[k]? = some y:=⟨_,AU AB⟩
  have cg:=Ai aw
  obtain ⟨_,⟨bF,cH,bG,bH,cI,bI,rfl,af,al⟩,bm⟩:=h3.elem k ah aw
  have bn:=af.len
  subst bn
  have ci:=af.max
  have bo:=al.len
  subst bo
  refine .lg 0 bm<|.np 48 [AH,AH] fun aI cJ ai aM bq br=>?_
  have ck:=AX ai E.lt
  have cm:=C.cn ai
  have co:=W.cn ai
  replace ⟨h1,h2,h3,h4,E,af,al,C,W⟩:=(sn [J] aM ai).g9 h1 h2 h3 h4 E af al C W
  refine .sc [.slice bF ah.ids.length bG,.slice bH ah.blocks.length bI] bq fun bJ aN aj bt=>?_
  replace ⟨h1,h2,h3,h4,E,af,al,C,W⟩:=(so [aI,J] aN).g9 h1 h2 h3 h4 E af al C W
  refine .d<|.s<|.g<|.ln aj<|.cl (Cf ah af.ta al.ta (w:=bJ) (F:=all)) ?_
  rintro cK bK ⟨rfl,aO⟩
  replace ⟨h1,h2,h3,h4,E,af,aj,C,W⟩:=(se [aI,J] aO).g9 h1 h2 h3 h4 E af aj C W
  cases cp:(Az ah)
  ·exact .r 14<|.d<|.ct<|.s<|.g<|.r 1<|.d<|.rt func47 results47 (.bool false) ⟨(AG (by (rw [Bool.true_and]; symm; exact Hp (KN ‹_› ‹_› (by exact Pf ‹_›))))),C⟩
  refine .r 3<|.lb aj<|.r 1<|.eq (ah.ids.length:Int) 0 (fun bu=>.r 8<|.d<|.ct<|.s<|.g<|.r 1<|.d<|.rt func47 results47 (.bool false) ⟨(AG (by (rw [Bool.true_and]; symm; exact Hp (KN ‹_› ‹_› (by exact Pg ‹_›))))),C⟩) fun bu=>.r 3<|.lb aj<|.cl (Fm ah.ids af.ta AB (w:=bK) (F:=all)) ?_
  rintro cL bv ⟨rfl,aP⟩
  replace ⟨h1,h2,h3,h4,E,C,W⟩:=(se [aI,J] aP).g7 h1 h2 h3 h4 E C W
  refine .r 1<|.bp (maxOf ah.ids > (s.idx.names.length:Int)) (fun bw=>.r 1<|.d<|.ct<|.s<|.g<|.r 1<|.d<|.rt func47 results47 (.bool false) ⟨(AG (by (rw [Bool.true_and]; symm; exact Hp (KN ‹_› ‹_› (by exact Ph ‹_› ‹_› ‹_›))))),C⟩) fun bw=>.r 1<|.d<|.cf<|.sk<|.ib 1<|.g<|RG.int ((k:Int)+1) AA (by have:=p0.ix.g.len; omega)<|.r 1<|.d ?_
  have bz:Mv [aI,J] [J] bv bv:=Mv.less (all_cons AJ all_nil)
  replace ⟨h1,h2,h3,h4⟩:=(sp bz (Chg.refl nil _)).g4 h1 h2 h3 h4
  exact av (k+1) _ _ ⟨AA,AA,AA,AA,AA,trivial⟩ ⟨W,AB,(by exact LB ‹_› ‹_› (Pj ‹_› ‹_› ‹_›)),‹_›⟩ AB
 refine .d<|.s<|.cf<|.x 0 rfl<|.s<|.s<|.g<|.r 1<|.lb E<|.r 2<|.d<|.b 2<|T.loop (X:=Nat) 0 (fun k=>[(1,.pointer (some ⟨J,0,none⟩)),(3,vI (s.idx.names.length:Int)),(54,.slice a4 s.mem.length c4),(55,vI (s.mem.length:Int)),(56,vI (k:Int))]) (fun k ax=>Chg (ins []) au ax∧(k≤s.mem.length)∧(s.parts.all (fun p=>Bw p s.idx.names.length)=true)∧((s.mem.drop k).all (EI s.idx.names.length)=s.mem.all (EI s.idx.names.length))∧(nmB s.idx.names=true)) (fun k=>s.mem.length - k) AA ⟨AA,AA,AA,AA,AA,trivial⟩ ⟨Chg.refl _ _,AD,(by exact Mt ‹_› AB),AD,‹_›⟩ ?_
 rintro k cM ax ⟨aa,cq,cr,cu,cw⟩ ay
 have aQ:Mv [J] [J] au ax:=Mv.inl aa all_nil (all_cons (.inl AI) all_nil)
 replace ⟨h1,h2,h3,h4,E,C⟩:=(sp aQ aa).g6 h1 h2 h3 h4 E C
 refine .s<|.g<|.bp ((k:Int)< (s.mem.length:Int)) (fun aS=>?_) (fun aS=>?_)
 ·refine .d<|.s<|.ct<|.sk<|.s<|.b 3<|.s<|.g ?_
  have aT:k< s.mem.length:=AB
  refine .ix k 3 h4 aT ?_
  obtain ⟨ab,am⟩:∃ y,s.mem[k]? = some y:=⟨_,AU AB⟩
  have bL:=Ai am
  obtain ⟨_,rfl,aU⟩:=h4.elem k ab am
  refine .lg 0 aU<|.np 85 [vI 0,vI 0,vI 0] fun ao cx ac az aV aW=>?_
  have bM:=AX ac E.lt
  have bN:=C.cn ac
  have bO:=aa.cn ac
  replace ⟨h1,h2,h3,h4,E,C,aa⟩:=(sn [J] az ac).g7 h1 h2 h3 h4 E C aa
  refine .sc [vI ab.id,vI ab.row.t,vI ab.row.v] aV fun bB aA ag aX=>?_
  replace ⟨h1,h2,h3,h4,E,C,aa⟩:=(so [ao,J] aA).g7 h1 h2 h3 h4 E C aa
  refine .d<|.s<|.g<|.r 1<|.lb ag<|.r 1<|.cl (CM ab.id 1 (s.idx.names.length:Int) (w:=bB) (F:=all)) ?_
  rintro cy bC ⟨rfl,aB⟩
  replace ⟨h1,h2,h3,h4,E,ag,C,aa⟩:=(se [ao,J] aB).g8 h1 h2 h3 h4 E ag C aa
  cases aC:(inR ab.id 1 (s.idx.names.length:Int))
  ·exact .r 7<|.d<|.ct<|.s<|.g<|.r 1<|.d<|.rt func47 results47 (.bool false) ⟨(AG (by (rw [Bool.true_and]; symm; exact KP (KN ‹_› ‹_› (by simp [EI, *]))))),C⟩
  refine .r 3<|.ln ag<|.cl (FH ab.row (w:=bC) (F:=all)) ?_
  rintro cz aR ⟨rfl,aD⟩
  replace ⟨h1,h2,h3,h4,E,C,aa⟩:=(se [ao,J] aD).g7 h1 h2 h3 h4 E C aa
  cases bR:(Bi ab.row)
  ·exact .r 2<|.d<|.ct<|.s<|.g<|.r 1<|.d<|.rt func47 results47 (.bool false) ⟨(AG (by (rw [Bool.true_and]; symm; exact KP (KN ‹_› ‹_› (by simp [EI, *]))))),C⟩
  refine .r 2<|.d<|.cf<|.sk<|.ib 3<|.g<|RG.int ((k:Int)+1) AA (by have:=p0.ix.g.len; omega)<|.r 1<|.d ?_
  have aY:Mv [ao,J] [J] aR aR:=Mv.less (all_cons AJ all_nil)
  replace ⟨h1,h2,h3,h4⟩:=(sp aY (Chg.refl nil _)).g4 h1 h2 h3 h4
  exact ay (k+1) _ _ ⟨AA,AA,AA,AA,AA,trivial⟩ ⟨aa,AB,‹_›,(by exact LB ‹_› ‹_› (by simp only [EI, *]; rfl)),‹_›⟩ AB
 refine .d<|.s<|.cf<|.x 2 rfl<|.s<|.s<|.g<|.r 1<|.d<|.b 4<|T.loop (X:=Nat) 1 (fun k=>[(1,.pointer (some ⟨J,0,none⟩)),(3,vI (s.idx.names.length:Int)),(8,vI (k:Int))]) (fun k ak=>Chg (ins []) ax ak∧(1≤k)∧(k≤s.idx.names.length+1)∧(s.parts.all (fun p=>Bw p s.idx.names.length)=true)∧(s.mem.all (EI s.idx.names.length)=true)∧(((List.range s.idx.names.length).drop (k - 1)).all (EJ s)=(List.range s.idx.names.length).all (EJ s))∧(nmB s.idx.names=true)) (fun k=>s.idx.names.length+1 - k) AA ⟨AA,AA,AA,trivial⟩ ⟨Chg.refl _ _,AB,AB,‹_›,(by exact Mt ‹_› AB),AF,‹_›⟩ ?_
 rintro k cA ak ⟨ae,bS,bT,bU,bV,bW,bX⟩ aq
 have aE:Mv [J] [J] ax ak:=Mv.inl ae all_nil (all_cons (.inl AI) all_nil)
 replace ⟨h1,h2,h3,h4,E,C⟩:=(sp aE ae).g6 h1 h2 h3 h4 E C
 refine .s<|.s<|.g<|.r 2<|.bp ((k:Int)≤(s.idx.names.length:Int)) (fun aZ=>?_) (fun aZ=>.d<|.cf<|.x 4 rfl<|.s<|.g<|.r 1<|.d<|.rt func47 results47 (.bool true) ⟨(AG (by rw [Bool.true_and]; symm; exact OP AB AB ‹_› ‹_› (Sj ‹_› AB))),C⟩)
 refine .d<|.ct<|.sk<|.s<|.b 5<|.s<|.g<|.ln E<|.r 1<|.cl (Dj s (k:Int) h1.ta h2.ta h3.ta h4.ta (SG.pt p0 ‹_›) (StoK.rw ‹_›) (by have:=p0.np; omega) (by have:=p0.nm2; omega) (w:=ak) (F:=all)) ?_
 rintro cB cC ⟨⟨cD,cE,rfl,aF⟩,aG⟩
 have aH:=al1 E.lt
 have ba:Gb w.heap.size ak.heap.size:=C.size
 replace ⟨C,ae⟩:=(se [] aG).g2 C ae
 have aF:=aF.fr aH ba
 have bY:=aF.max
 exact .r 1<|.bp ((((rowsOf s (k:Int)).length):Int) > 24) (fun bc=>.d<|.ct<|.s<|.g<|.r 1<|.d<|.rt func47 results47 (.bool false) ⟨(AG (by (rw [Bool.true_and]; symm; exact OO (Th ‹_› AB AB AB)))),C⟩) fun bc=>.d<|.cf<|.sk<|.ib 5<|.g<|.r 1<|RG.int ((k:Int)+1) AA (by have:=p0.ix.g.len; omega)<|.r 1<|.d<|aq (k+1) _ _ ⟨AA,AA,AA,trivial⟩ ⟨ae,AB,AB,‹_›,‹_›,(by exact Q6 ‹_› AB AB AB),‹_›⟩ AB
end Go.Proofs.YtggnnidleedpaaaGreat
namespace Go.Proofs.YtggnnidleedpaaaGreat
set_option maxRecDepth 100000
set_option maxHeartbeats 4000000
variable {w:World} {F:Nat→Prop} {a1 a2 a3 a4:Option Addr} {n1 c1 n2 c2 n3 c3 n4 c4:Nat}
theorem JX (ix:Idx) (h1:RepS w F a1 n1 c1 ix.names) (h2:RepS w F a2 n2 c2 ix.AY) (p0:IxI ix) (p1:NsD ix.names):Calls Tryz.prog 85 [.agg #[.slice a1 n1 c1,.slice a2 n2 c2]].toArray w (BB fun rv w'=>rv=.bool (true)∧Ext w w'):=by
 refine (Fa ix h1 h2 ⟨NmG.of p0.nm p1,fun _=>p0.eq⟩).mono ?_
 rintro e w' ⟨v,rfl,hv,hx⟩
 exact ⟨v,rfl,by rw [hv,Dk.2 p0.nm],hx⟩
theorem Ef (s:Sto) (h1:RepS w F a1 n1 c1 s.idx.names) (h2:RepS w F a2 n2 c2 s.idx.AY) (h3:RepS w F a3 n3 c3 s.parts) (h4:RepS w F a4 n4 c4 s.mem) (p0:SD s):Calls Tryz.prog 47 [.agg #[.slice a1 n1 c1,.slice a2 n2 c2,.slice a3 n3 c3,.slice a4 n4 c4]].toArray w (BB fun rv w'=>rv=.bool (Al s)∧Ext w w'):=by
 refine (EF s h1 h2 h3 h4 (SG.of p0)).mono ?_
 rintro e w' ⟨v,rfl,hv,hx⟩
 exact ⟨v,rfl,by rw [hv,Dk.2 p0.nm,Bool.true_and],hx⟩
end Go.Proofs.YtggnnidleedpaaaGreat
namespace Go.Proofs.YtggnnidleedpaaaGreat
set_option maxRecDepth 100000
set_option maxHeartbeats 4000000
variable {w:World} {F:Nat→Prop} {a1 a2 a3 a4 a5:Option Addr} {n1 c1 n2 c2 n3 c3 n4 c4 n5 c5:Nat}
theorem Ie (ix:Idx) (n:List Tag) (h1:RepS w F a1 n1 c1 ix.names) (h2:RepS w F a2 n2 c2 ix.AY) (h3:RepS w F a3 n3 c3 n) (p0:IxI ix) (p1:NsD ix.names) (p2:NmD n):Calls Tryz.prog 96 [.agg #[.slice a1 n1 c1,.slice a2 n2 c2],.slice a3 n3 c3].toArray w (BB fun rv w'=>(∃ v0,rv=.tuple #[v0,.int .i64 ((CD ix n).2.1),.bool ((CD ix n).2.2)]∧VS (fo F w.heap.size) w' ((CD ix n).1:Idx) v0)∧Ext w w'):=by
 refine goT func96 ?_
 obtain ⟨rfl,dG,h1⟩:=h1.tp
 obtain ⟨rfl,dH,h2⟩:=h2.tp
 obtain ⟨rfl,dI,h3⟩:=h3.tp
 refine .s<|.g<|.np 28 [.slice a1 ix.names.length c1,.slice a2 ix.AY.length c2] fun ab ey bU bk E cP=>?_
 replace ⟨h1,h2,h3⟩:=(sn [] bk bU).g3 h1 h2 h3
 have C:=bk
 refine .np 28 [AH,AH] fun aa df aU bV J cQ=>?_
 have bW:=AX aU E.lt
 have dJ:=C.cn aU
 replace ⟨h1,h2,h3,E,C⟩:=(sn [ab] bV aU).g5 h1 h2 h3 E C
 refine .r 2<|.d<|.s<|.s<|.g<|.ln E<|.cl (JX ix h1.ta h2.ta p0 p1 (w:=df) (F:=all)) ?_
 rintro ez dg ⟨rfl,bX⟩
 replace ⟨h1,h3,E,J,C⟩:=(se [aa,ab] bX).g5 h1 h3 E J C
 refine .r 3<|.cl (Et n h3.ta (w:=dg) (F:=all)) ?_
 rintro eA dh ⟨rfl,bY⟩
 replace ⟨h1,h3,E,J,C⟩:=(se [aa,ab] bY).g5 h1 h3 E J C
 cases dK:(BC n)
 ·refine .r 2<|.d<|.ct<|.s<|.g<|.r 1<|.sc [AH,AH] J fun eB bZ cR cS=>?_
  replace ⟨h1,h3,E,C⟩:=(so [aa,ab] bZ).g4 h1 h3 E C
  exact .r 2<|.d<|T.Jn (v:=.agg #[AH,AH]) (v':=vI 0) (v'':=.bool false) AA func96 results96 (Bs.cell (ad:=⟨aa,0,none⟩) AA ((cR.has 0 [AH,AH] AA).E0 AA)) (Bs.tmp AA) (Bs.tmp AA) ⟨⟨_,(Kw rfl (congrArg (Value.int .i64) (by rw [LF ‹_›])) (AG (by rw [LF ‹_›]))),(VS.of (y:=(⟨([]:List (List Tag)),([]:List Pst)⟩:Idx)) ⟨_,rfl,⟨_,_,_,_,_,_,rfl,(RepS.Aj _ _ none 0 AE),(RepS.Aj _ _ none 0 AE)⟩⟩ (by rw [LF ‹_›]))⟩,C⟩
 refine .r 2<|.d<|.cf<|.sk<|.s<|.s<|.g<|.r 1<|.lb E<|.r 1<|.cl (FY ix.names n h1.ta h3.ta (w:=dh) (F:=all)) ?_
 rintro eC am ⟨rfl,b0⟩
 replace ⟨h1,h3,E,J,C⟩:=(se [aa,ab] b0).g5 h1 h3 E J C
 refine .r 1<|.d<|.s<|.g<|.r 1<|.bp ((DI n 0 ix.names+1) > 0) (fun cT=>?_) (fun cT=>?_)
 ·refine .d<|.ct<|.s<|.g<|.r 1<|.lb E<|.cl (CG ix.names h1.ta (by exact p0.nm) (by exact p1) (w:=am) (F:=all)) ?_
  rintro eD eE ⟨⟨_,rfl,⟨ce,eF,cg,ci,eG,cj,rfl,aw,ax⟩⟩,b6⟩
  have bm:=al2 J.lt E.lt
  have b7:Gb w.heap.size am.heap.size:=C.size
  replace ⟨h1,h3,E,J,C⟩:=(se [aa,ab] b6).g5 h1 h3 E J C
  have aw:=aw.fr bm b7
  replace aw:=aw.base (G':=fo F w.heap.size) (fun _ _ h=>.inr h)
  have dL:=aw.max
  have ax:=ax.fr bm b7
  replace ax:=ax.base (G':=fo F w.heap.size) (fun _ _ h=>.inr h)
  have dM:=ax.max
  have cU:=aw.len
  subst cU
  have cV:=ax.len
  subst cV
  refine .r 1<|.sc [.slice ce ((idxOf ix.names).names.length) cg,.slice ci ((idxOf ix.names).AY.length) cj] J fun eH b8 cW cX=>?_
  replace ⟨h1,h3,E,aw,ax,C⟩:=(so [aa,ab] b8).g6 h1 h3 E aw ax C
  exact .r 2<|.d<|T.Jn (v:=.agg #[.slice ce ((idxOf ix.names).names.length) cg,.slice ci ((idxOf ix.names).AY.length) cj]) (v':=vI (DI n 0 ix.names+1)) (v'':=.bool true) AA func96 results96 (Bs.cell (ad:=⟨aa,0,none⟩) AA ((cW.has 0 [.slice ce ((idxOf ix.names).names.length) cg,.slice ci ((idxOf ix.names).AY.length) cj] AA).E0 AA)) (Bs.tmp AA) (Bs.tmp AA) ⟨⟨_,(Kw rfl (congrArg (Value.int .i64) (by (rw [JU p0 ‹_› ‹_›]; done))) (AG (by (rw [JU p0 ‹_› ‹_›]; done)))),(VS.of (y:=(idxOf ix.names)) ⟨_,rfl,⟨_,_,_,_,_,_,rfl,aw.w1,ax.w1⟩⟩ (by (rw [JU p0 ‹_› ‹_›]; done)))⟩,C⟩
 refine .d<|.cf<|.sk<|.s<|.s<|.g<|.r 1<|.lb E<|.r 1<|.eq (ix.names.length:Int) 6 (fun cY=>?_) (fun cY=>?_)
 ·refine .d<|.ct<|.s<|.g<|.r 1<|.lb E<|.cl (CG ix.names h1.ta (by exact p0.nm) (by exact p1) (w:=am) (F:=all)) ?_
  rintro eI eJ ⟨⟨_,rfl,⟨ck,eK,cm,co,eL,cp,rfl,ay,az⟩⟩,b9⟩
  have bn:=al2 J.lt E.lt
  have cd:Gb w.heap.size am.heap.size:=C.size
  replace ⟨h1,h3,E,J,C⟩:=(se [aa,ab] b9).g5 h1 h3 E J C
  have ay:=ay.fr bn cd
  replace ay:=ay.base (G':=fo F w.heap.size) (fun _ _ h=>.inr h)
  have dN:=ay.max
  have az:=az.fr bn cd
  replace az:=az.base (G':=fo F w.heap.size) (fun _ _ h=>.inr h)
  have dO:=az.max
  have cZ:=ay.len
  subst cZ
  have c7:=az.len
  subst c7
  refine .sc [.slice ck ((idxOf ix.names).names.length) cm,.slice co ((idxOf ix.names).AY.length) cp] J fun dP bo cq cr=>?_
  replace ⟨h1,h3,E,ay,az,C⟩:=(so [aa,ab] bo).g6 h1 h3 E ay az C
  exact .r 2<|.d<|T.Jn (v:=.agg #[.slice ck ((idxOf ix.names).names.length) cm,.slice co ((idxOf ix.names).AY.length) cp]) (v':=vI 0) (v'':=.bool false) AA func96 results96 (Bs.cell (ad:=⟨aa,0,none⟩) AA ((cq.has 0 [.slice ck ((idxOf ix.names).names.length) cm,.slice co ((idxOf ix.names).AY.length) cp] AA).E0 AA)) (Bs.tmp AA) (Bs.tmp AA) ⟨⟨_,(Kw rfl (congrArg (Value.int .i64) (by (rw [Hx p0 ‹_› ‹_› ‹_›]; done))) (AG (by (rw [Hx p0 ‹_› ‹_› ‹_›]; done)))),(VS.of (y:=(idxOf ix.names)) ⟨_,rfl,⟨_,_,_,_,_,_,rfl,ay.w1,az.w1⟩⟩ (by (rw [Hx p0 ‹_› ‹_› ‹_›]; done)))⟩,C⟩
 refine .d<|.cf<|.sk<|.s ?_
 replace h1:=h1.BO
 replace h3:=h3.BO
 have bq:Gb (ab+1) am.heap.size:=E.lt
 have br:Cov (mtb [aa] am.heap.size) am aa:=⟨.inl (.inl AI)⟩
 refine .gd (mtb [aa] am.heap.size) 12 fun c8 aC=>?_
 replace ⟨h1,h3,E,J,C⟩:=(se [aa,ab] aC).g5 h1 h3 E J C
 have W:Chg (mtb [aa] am.heap.size) am c8:=Chg.Cb (Chg.refl (mtb [aa] am.heap.size) am) aC
 refine .r [0]<|.lb 1 E (BL (all_cons (Nb.symm bW) all_nil) bq)<|.r [3,7]<|.lb 8 E (BL (all_cons (Nb.symm bW) all_nil) bq)<|.r [9]<|GA.int (i:=10) ((ix.names.length:Int)+1) AA (by have:=p0.nm.len; omega)<|.tw 2 4 ?_ ?_
 ·refine .cl (fun bt aD=>Ak ix.names (h1.ta.ext aD) (by have:=p0.nm.len; omega) (fun n hn=>by have:=(p0.nm.sz n hn).1; omega) (w:=bt) (F:=all)) ?_
  intro bt aD
  replace ⟨h1,h3,E,J,C,W⟩:=(se [aa,ab] aD).g6 h1 h3 E J C W
  rintro dQ dR ⟨⟨ao,c9,da,rfl,ac,ar⟩,aE⟩
  have bu:=al2 J.lt E.lt
  have cu:Gb w.heap.size bt.heap.size:=C.size
  have hkeep_:=aE
  have dj:=Ah ar E.lt
  have dm:=Ah ar J.lt
  have dp:Cov nil w ao:=BT ar C.size
  have cw:Cov (mtb [aa] am.heap.size) am ao:=BT ar W.size
  replace ⟨h1,h3,E,J,C,W⟩:=(sz [aa,ab] aE ar).g6 h1 h3 E J C W
  refine ⟨Ext.chg hkeep_,?_⟩
  replace ac:=Own.take (s0:=w.heap.size) (M:=[aa,ab]) ac bu cu
  replace ac:=ac.base (G':=fo F w.heap.size) (fun _ _ h=>.inr h)
  have dq:=ac.len
  refine .go 4<|.ns 1 43 [.slice a3 n.length c3] fun dS bv=>?_
  replace ⟨h1,h3,E,J,ac,C,W⟩:=(se [ao,aa,ab] bv).g7 h1 h3 E J ac C W
  intro bw dT au bz aF cx
  have cy:=AX au E.lt
  have cz:=AX au J.lt
  have bA:=AX au ac.lt
  have cA:=Ae au C.size
  replace ⟨h1,h3,E,J,ac,C,W⟩:=(se [ao,aa,ab] bz).g7 h1 h3 E J ac C W
  refine .go 5<|GE.append (T:=25) (ty:=25) (args:=[vS ao c9 da,vS bw 1 1]) AA fun dU bB=>?_
  replace ⟨h1,h3,E,J,ac,aF,C,W⟩:=(se [ao,aa,ab] bB).g8 h1 h3 E J ac aF C W
  have bi:nin (fo F w.heap.size) [ao,aa,ab] bw∧bw≠ao:=BR (.inr cA) (all_cons bA (all_cons cz (all_cons cy all_nil))) bA
  obtain ⟨aB,dV,dW,bC,aj,aV,aG,cB⟩:=ac.Ax (P:=Tryz.prog) (T:=25) (ty:=25) (y:=n) AA aF ⟨_,_,_,rfl,((h3.base (fun _ _ h=>h.1)).CE (fun b _ h=>Dx AI h))⟩ bi (by have:=p0.nm.len; omega)
  refine ⟨_,_,bC,Chg.toS aG (Cov.toS cw),?_⟩
  replace ⟨h1,h3,E,J,C,W⟩:=(sa [ao,aa,ab] aG aV).g6 h1 h3 E J C W
  replace aj:=aj.rn ao
  refine .go 6<|.cl (fun bD aH=>CG (ix.names++[n]) (aj.rep.ext aH) (by exact NmI.Tq p0 ‹_› ‹_› ‹_›) (by exact p1.add p2) (w:=bD) (F:=all)) ?_
  intro bD aH
  replace ⟨h1,h3,E,J,aj,C,W⟩:=(se [aB,aa,ab] aH).g7 h1 h3 E J aj C W
  rintro dX dY ⟨⟨_,rfl,⟨aW,dZ,aX,aY,d0,aZ,rfl,ae,af⟩⟩,aI⟩
  have aJ:=al3 aj.lt J.lt E.lt
  have bE:Gb w.heap.size bD.heap.size:=C.size
  have hkeep_:=aI
  replace ⟨h1,h3,E,J,C,W⟩:=(se [aB,aa,ab] aI).g6 h1 h3 E J C W
  refine ⟨Ext.chg hkeep_,?_⟩
  have ae:=ae.fr aJ bE
  replace ae:=ae.base (G':=fo F w.heap.size) (fun _ _ h=>.inr h)
  have dv:=ae.max
  have af:=af.fr aJ bE
  replace af:=af.base (G':=fo F w.heap.size) (fun _ _ h=>.inr h)
  have dw:=af.max
  have cC:=ae.len
  subst cC
  have cD:=af.len
  subst cD
  refine .go 11<|GE.Dc (t':=28) (o:=0) (v:=.agg #[.slice aW (((idxOf (ix.names++[n])).names).length) aX,.slice aY (((idxOf (ix.names++[n])).AY).length) aZ]) [.slice aW (((idxOf (ix.names++[n])).names).length) aX,.slice aY (((idxOf (ix.names++[n])).AY).length) aZ] J AA AA AA fun d3 bF=>?_
  replace ⟨h1,h3,E,J,ae,af,C,W⟩:=(se [aB,aa,ab] bF).g8 h1 h3 E J ae af C W
  intro d4 aK aL cE
  have hkeep_:=Chg.toS aK (Cov.toS br)
  replace ⟨h1,h3,E,ae,af,C,W⟩:=(so [aB,aa,ab] aK).g7 h1 h3 E ae af C W
  refine ⟨hkeep_,?_⟩
  refine .d fun d5 bG=>?_
  replace ⟨h1,h3,E,aL,ae,af,C,W⟩:=(se [aB,aa,ab] bG).g8 h1 h3 E aL ae af C W
  replace h1:=h1.Aa
  replace h3:=h3.Aa
  exact .r 2<|.d<|T.Jn (v:=.agg #[.slice aW (((idxOf (ix.names++[n])).names).length) aX,.slice aY (((idxOf (ix.names++[n])).AY).length) aZ]) (v':=vI ((ix.names.length:Int)+1)) (v'':=.bool true) AA func96 results96 (Bs.cell (ad:=⟨aa,0,none⟩) AA ((aL.has 0 [.slice aW (((idxOf (ix.names++[n])).names).length) aX,.slice aY (((idxOf (ix.names++[n])).AY).length) aZ] AA).E0 AA)) (Bs.tmp AA) (Bs.tmp AA) ⟨⟨_,(Kw rfl (congrArg (Value.int .i64) (by (rw [FA p0 ‹_› ‹_› ‹_›]; done))) (AG (by (rw [FA p0 ‹_› ‹_› ‹_›]; done)))),(VS.of (y:=(idxOf (ix.names++[n]))) ⟨_,rfl,⟨_,_,_,_,_,_,rfl,ae.w1,af.w1⟩⟩ (by (rw [FA p0 ‹_› ‹_› ‹_›]; done)))⟩,C⟩
 refine .ns 1 43 [.slice a3 n.length c3] fun d6 bH=>?_
 replace ⟨h1,h3,E,J,C,W⟩:=(se [aa,ab] bH).g6 h1 h3 E J C W
 intro bI d7 aA bJ ak cF
 have cG:=AX aA E.lt
 have cH:=AX aA J.lt
 have cI:=Ae aA C.size
 replace ⟨h1,h3,E,J,C,W⟩:=(se [aa,ab] bJ).g6 h1 h3 E J C W
 refine .go 2<|.cl (fun bK aM=>Ak ix.names (h1.ta.ext aM) (by have:=p0.nm.len; omega) (fun n hn=>by have:=(p0.nm.sz n hn).1; omega) (w:=bK) (F:=all)) ?_
 intro bK aM
 replace ⟨h3,E,J,ak,C,W⟩:=(se [aa,ab] aM).g6 h3 E J ak C W
 rintro d8 d9 ⟨⟨av,db,de,rfl,ai,aq⟩,aN⟩
 have bL:=al2 J.lt E.lt
 have cJ:Gb w.heap.size bK.heap.size:=C.size
 have hkeep_:=aN
 have dx:=Ah aq E.lt
 have dy:=Ah aq J.lt
 have bM:=Ah aq ak.lt
 have dz:Cov nil w av:=BT aq C.size
 have cK:Cov (mtb [aa] am.heap.size) am av:=BT aq W.size
 replace ⟨h3,E,J,ak,C⟩:=(sz [aa,ab] aN aq).g5 h3 E J ak C
 refine ⟨Ext.chg hkeep_,?_⟩
 replace ai:=Own.take (s0:=w.heap.size) (M:=[aa,ab]) ai bL cJ
 replace ai:=ai.base (G':=fo F w.heap.size) (fun _ _ h=>.inr h)
 have dA:=ai.len
 refine .go 5<|GE.append (T:=25) (ty:=25) (args:=[vS av db de,vS bI 1 1]) AA fun ec bN=>?_
 replace ⟨h3,E,J,ak,ai,C⟩:=(se [av,aa,ab] bN).g6 h3 E J ak ai C
 have bj:nin (fo F w.heap.size) [av,aa,ab] bI∧bI≠av:=BR (.inr cI) (all_cons (Nb.symm bM) (all_cons cH (all_cons cG all_nil))) (Nb.symm bM)
 obtain ⟨ba,ed,ee,bO,al,bT,aO,cL⟩:=ai.Ax (P:=Tryz.prog) (T:=25) (ty:=25) (y:=n) AA ak ⟨_,_,_,rfl,((h3.base (fun _ _ h=>h.1)).CE (fun b _ h=>Dx AI h))⟩ bj (by have:=p0.nm.len; omega)
 refine ⟨_,_,bO,Chg.toS aO (Cov.toS cK),?_⟩
 replace ⟨E,J,C⟩:=(s1 aO).g3 E J C
 replace al:=al.rn av
 refine .go 6<|.cl (fun bP aP=>CG (ix.names++[n]) (al.rep.ext aP) (by exact NmI.Tq p0 ‹_› ‹_› ‹_›) (by exact p1.add p2) (w:=bP) (F:=all)) ?_
 intro bP aP
 replace ⟨E,J,al,C⟩:=(se [ba,aa,ab] aP).g4 E J al C
 rintro ef eg ⟨⟨_,rfl,⟨bc,eh,bd,bg,ej,bh,rfl,ag,ah⟩⟩,aQ⟩
 have aR:=al3 al.lt J.lt E.lt
 have bQ:Gb w.heap.size bP.heap.size:=C.size
 have hkeep_:=aQ
 replace ⟨J,C⟩:=(se [] aQ).g2 J C
 refine ⟨Ext.chg hkeep_,?_⟩
 have ag:=ag.fr aR bQ
 replace ag:=ag.base (G':=fo F w.heap.size) (fun _ _ h=>.inr h)
 have dE:=ag.max
 have ah:=ah.fr aR bQ
 replace ah:=ah.base (G':=fo F w.heap.size) (fun _ _ h=>.inr h)
 have dF:=ah.max
 have cM:=ag.len
 subst cM
 have cN:=ah.len
 subst cN
 refine .go 11<|GE.Dc (t':=28) (o:=0) (v:=.agg #[.slice bc (((idxOf (ix.names++[n])).names).length) bd,.slice bg (((idxOf (ix.names++[n])).AY).length) bh]) [.slice bc (((idxOf (ix.names++[n])).names).length) bd,.slice bg (((idxOf (ix.names++[n])).AY).length) bh] J AA AA AA fun ek bR=>?_
 replace ⟨ag,ah,C⟩:=(se [ba,aa,ab] bR).g3 ag ah C
 intro en aS aT cO
 have hkeep_:=Chg.toS aS (Cov.toS br)
 replace ⟨ag,ah,C⟩:=(so [ba,aa,ab] aS).g3 ag ah C
 refine ⟨hkeep_,?_⟩
 refine .d fun et bS=>?_
 replace ⟨aT,ag,ah,C⟩:=(se [ba,aa,ab] bS).g4 aT ag ah C
 exact .r 2<|.d<|T.Jn (v:=.agg #[.slice bc (((idxOf (ix.names++[n])).names).length) bd,.slice bg (((idxOf (ix.names++[n])).AY).length) bh]) (v':=vI ((ix.names.length:Int)+1)) (v'':=.bool true) AA func96 results96 (Bs.cell (ad:=⟨aa,0,none⟩) AA ((aT.has 0 [.slice bc (((idxOf (ix.names++[n])).names).length) bd,.slice bg (((idxOf (ix.names++[n])).AY).length) bh] AA).E0 AA)) (Bs.tmp AA) (Bs.tmp AA) ⟨⟨_,(Kw rfl (congrArg (Value.int .i64) (by (rw [FA p0 ‹_› ‹_› ‹_›]; done))) (AG (by (rw [FA p0 ‹_› ‹_› ‹_›]; done)))),(VS.of (y:=(idxOf (ix.names++[n]))) ⟨_,rfl,⟨_,_,_,_,_,_,rfl,ag.w1,ah.w1⟩⟩ (by (rw [FA p0 ‹_› ‹_› ‹_›]; done)))⟩,C⟩
theorem En (s:Sto) (h1:RepS w F a1 n1 c1 s.idx.names) (h2:RepS w F a2 n2 c2 s.idx.AY) (h3:RepS w F a3 n3 c3 s.parts) (h4:RepS w F a4 n4 c4 s.mem) (p0:NmI s.idx.names) (p1:NsD s.idx.names) (p2:KE s):Calls Tryz.prog 41 [.agg #[.slice a1 n1 c1,.slice a2 n2 c2,.slice a3 n3 c3,.slice a4 n4 c4]].toArray w (BB fun rv w'=>(∃ (a0:Option Addr) (n0 c0:Nat) (a1:Option Addr) (n1 c1:Nat) (a2:Option Addr) (n2 c2:Nat) (r3 n3 c3:Nat),rv=.agg #[.slice a0 n0 c0,.slice a1 n1 c1,.slice a2 n2 c2,.slice (some ⟨r3,0,none⟩) n3 c3]∧RepS w' (nin (ge w.heap.size) [r3]) a0 n0 c0 ((((Am s)).idx).names)∧RepS w' (nin (ge w.heap.size) [r3]) a1 n1 c1 ((((Am s)).idx).AY)∧RepS w' (nin (ge w.heap.size) [r3]) a2 n2 c2 (((Am s)).parts)∧Own w' r3 85 (nin (ge w.heap.size) [r3]) n3 c3 (((Am s)).mem)∧w.heap.size≤r3)∧Ext w w'):=by
 refine goT func41 ?_
 obtain ⟨rfl,dD,h1⟩:=h1.tp
 obtain ⟨rfl,dE,h2⟩:=h2.tp
 obtain ⟨rfl,dF,h3⟩:=h3.tp
 obtain ⟨rfl,dG,h4⟩:=h4.tp
 refine .s<|.g<|.np 32 [.slice a1 s.idx.names.length c1,.slice a2 s.idx.AY.length c2,.slice a3 s.parts.length c3,.slice a4 s.mem.length c4] fun ac d6 bS bn W cI=>?_
 replace ⟨h1,h3,h4⟩:=(sn [] bn bS).g3 h1 h3 h4
 have E:=bn
 refine .np 32 [AH,AH,AH,AH] fun ae aE bo bT J cJ=>?_
 have dH:=E.cn bo
 replace ⟨h1,h3,h4,W,E⟩:=(sn [ac] bT bo).g5 h1 h3 h4 W E
 refine .d<|.s<|T.D3 (X:=(Option Addr) × Nat × (Option Addr) × Nat × Nat × Nat × Nat × Nat) (mtb [] aE.heap.size) 10 (fun (bg,bh,bi,bj,aj,bk,bm,aq)=>[(2,.pointer (some ⟨ae,0,none⟩)),(6,.agg #[.slice bg ((idxOf s.idx.names).names.length) bh,.slice bi ((idxOf s.idx.names).AY.length) bj]),(9,vS aj bk bm),(10,vS aq 0 0),(12,.slice a4 s.mem.length c4)]) (fun (bg,bh,bi,bj,aj,bk,bm,aq) az=>Ext aE az∧aE.heap.size≤aj∧aE.heap.size≤aq∧Nb aq aj∧RepS az (nin (ge w.heap.size) [aj,aq,ae,ac]) bg ((idxOf s.idx.names).names.length) bh ((idxOf s.idx.names).names:List (List Tag))∧RepS az (nin (ge w.heap.size) [aj,aq,ae,ac]) bi ((idxOf s.idx.names).AY.length) bj ((idxOf s.idx.names).AY:List Pst)∧Own az aj 48 (nin (ge w.heap.size) [aj,aq,ae,ac]) bk bm (s.parts:List Prt)∧Own az aq 85 (nin (ge w.heap.size) [aj,aq,ae,ac]) 0 0 ([]:List Smp)) AA (fun dI aJ=>?_) ?_
 ·replace h1:=h1.BO
  replace h3:=h3.BO
  replace h4:=h4.BO
  have aK:Gb (ac+1) aE.heap.size:=W.lt
  replace ⟨h1,h3,h4,W,J,E⟩:=(se [ae,ac] aJ).g6 h1 h3 h4 W J E
  have C:=aJ
  refine .r [0,1]<|.lb 2 W (BL all_nil aK)<|.r [4]<|.lb 5 W (BL all_nil aK)<|.r [8]<|.lb 9 W (BL all_nil aK)<|.tw 3 7 ?_ ?_
  ·refine .cl (fun bq aL=>CG s.idx.names (h1.ta.ext aL) p0 p1 (w:=bq) (F:=all)) ?_
   intro bq aL
   replace ⟨h1,h3,h4,W,J,E,C⟩:=(se [ae,ac] aL).g7 h1 h3 h4 W J E C
   rintro dJ dK ⟨⟨_,rfl,⟨bU,dL,bV,bW,dM,bX,rfl,aa,ab⟩⟩,aM⟩
   have aN:=al2 J.lt W.lt
   have br:Gb w.heap.size bq.heap.size:=E.size
   have hkeep_:=aM
   replace ⟨h1,h3,h4,W,J,E,C⟩:=(se [ae,ac] aM).g7 h1 h3 h4 W J E C
   refine ⟨Ext.chg hkeep_,?_⟩
   have aa:=aa.fr aN br
   have cZ:=aa.max
   have ab:=ab.fr aN br
   have c7:=ab.max
   have b0:=aa.len
   subst b0
   have b6:=ab.len
   subst b6
   refine .tw 6 7 ?_ ?_
   ·refine .cl (fun bt aO=>CO s.parts (h3.ta.ext aO) (by have:=p2.2.1; omega) p2.2.2.1 (w:=bt) (F:=all)) ?_
    intro bt aO
    replace ⟨h1,h3,h4,W,J,aa,ab,E,C⟩:=(se [ae,ac] aO).g9 h1 h3 h4 W J aa ab E C
    rintro dN dO ⟨⟨ax,cK,cL,rfl,ag,aP⟩,aQ⟩
    have bu:=al2 J.lt W.lt
    have b7:Gb w.heap.size bt.heap.size:=E.size
    have hkeep_:=aQ
    have b8:Cov nil aE ax:=BT aP C.size
    replace ⟨h1,h3,h4,W,J,aa,ab,E,C⟩:=(sz [ae,ac] aQ aP).g9 h1 h3 h4 W J aa ab E C
    refine ⟨Ext.chg hkeep_,?_⟩
    replace ag:=Own.take (s0:=w.heap.size) (M:=[ae,ac]) ag bu b7
    refine .go 7<|.ns 0 85 [] fun dP bv=>?_
    replace ⟨h1,h3,h4,W,J,aa,ab,ag,E,C⟩:=(se [ax,ae,ac] bv).g10 h1 h3 h4 W J aa ab ag E C
    intro aD cM aF bw b9 cd
    have ce:=AX aF ag.lt
    have cg:=C.cn aF
    replace ⟨h1,h3,h4,W,J,aa,ab,ag,E,C⟩:=(sn [ax,ae,ac] bw aF).g10 h1 h3 h4 W J aa ab ag E C
    have aR:Own (α:=Smp) cM aD 85 (nin (ge w.heap.size) [aD,ax,ae,ac]) 0 0 []:=Own.Aj b9
    refine .d fun bY bz=>?_
    replace ⟨h1,h3,h4,W,J,aa,ab,ag,aR,E,C⟩:=(se [aD,ax,ae,ac] bz).g11 h1 h3 h4 W J aa ab ag aR E C
    replace h1:=h1.Aa
    replace h3:=h3.Aa
    replace h4:=h4.Aa
    have aG:Mv [aD,ax,ae,ac] [ax,aD,ae,ac] bY bY:=Mv.less (all_cons AJ (all_cons AI (all_cons AK (all_cons AL all_nil))))
    exact ⟨(bU,bV,bW,bX,ax,cK,cL,aD),⟨AA,AA,AA,AA,AA,trivial⟩,⟨C,(Ad b8),(Ad cg),ce,(RepS.mv aa aG),(RepS.mv ab aG),(Own.mv ag aG (Chg.refl nil _) (fun h=>h)),(Own.mv aR aG (Chg.refl nil _) (fun h=>h))⟩⟩
   refine .ns 0 85 [] fun dQ bA=>?_
   replace ⟨h1,h3,h4,W,J,aa,ab,E,C⟩:=(se [ae,ac] bA).g9 h1 h3 h4 W J aa ab E C
   intro aA cN aS bB ci cj
   have ck:=C.cn aS
   replace ⟨h1,h3,h4,W,J,aa,ab,E,C⟩:=(sn [ae,ac] bB aS).g9 h1 h3 h4 W J aa ab E C
   have ah:Own (α:=Smp) cN aA 85 (nin (ge w.heap.size) [aA,ae,ac]) 0 0 []:=Own.Aj ci
   refine .go 6<|.cl (fun bC aT=>CO s.parts (h3.ta.ext aT) (by have:=p2.2.1; omega) p2.2.2.1 (w:=bC) (F:=all)) ?_
   intro bC aT
   replace ⟨h1,h3,h4,W,J,aa,ab,ah,E,C⟩:=(se [aA,ae,ac] aT).g10 h1 h3 h4 W J aa ab ah E C
   rintro dR dS ⟨⟨bD,cO,cP,rfl,am,aH⟩,aU⟩
   have bE:=al3 ah.lt J.lt W.lt
   have cm:Gb w.heap.size bC.heap.size:=E.size
   have hkeep_:=aU
   have co:=Ah aH ah.lt
   have cp:Cov nil aE bD:=BT aH C.size
   replace ⟨h1,h3,h4,W,J,aa,ab,ah,E,C⟩:=(sz [aA,ae,ac] aU aH).g10 h1 h3 h4 W J aa ab ah E C
   refine ⟨Ext.chg hkeep_,?_⟩
   replace am:=Own.take (s0:=w.heap.size) (M:=[aA,ae,ac]) am bE cm
   refine .d fun dT bF=>?_
   replace ⟨h1,h3,h4,W,J,aa,ab,ah,am,E,C⟩:=(se [bD,aA,ae,ac] bF).g11 h1 h3 h4 W J aa ab ah am E C
   replace h1:=h1.Aa
   replace h3:=h3.Aa
   replace h4:=h4.Aa
   exact ⟨(bU,bV,bW,bX,bD,cO,cP,aA),⟨AA,AA,AA,AA,AA,trivial⟩,⟨C,(Ad cp),(Ad ck),(Nb.symm co),aa,ab,am,ah⟩⟩
  refine .ns 0 85 [] fun dU bG=>?_
  replace ⟨h1,h3,h4,W,J,E,C⟩:=(se [ae,ac] bG).g7 h1 h3 h4 W J E C
  intro ar cQ aV bH cq cr
  have cu:=C.cn aV
  replace ⟨h1,h3,h4,W,J,E,C⟩:=(sn [ae,ac] bH aV).g7 h1 h3 h4 W J E C
  have af:Own (α:=Smp) cQ ar 85 (nin (ge w.heap.size) [ar,ae,ac]) 0 0 []:=Own.Aj cq
  refine .go 3<|.cl (fun bI aW=>CG s.idx.names (h1.ta.ext aW) p0 p1 (w:=bI) (F:=all)) ?_
  intro bI aW
  replace ⟨h3,h4,W,J,af,E,C⟩:=(se [ar,ae,ac] aW).g7 h3 h4 W J af E C
  rintro dV dW ⟨⟨_,rfl,⟨cR,dX,cS,cT,dY,cU,rfl,ak,al⟩⟩,aX⟩
  have aY:=al3 af.lt J.lt W.lt
  have bJ:Gb w.heap.size bI.heap.size:=E.size
  have hkeep_:=aX
  replace ⟨h3,h4,W,J,af,E,C⟩:=(se [ar,ae,ac] aX).g7 h3 h4 W J af E C
  refine ⟨Ext.chg hkeep_,?_⟩
  have ak:=ak.fr aY bJ
  have de:=ak.max
  have al:=al.fr aY bJ
  have df:=al.max
  have cw:=ak.len
  subst cw
  have cx:=al.len
  subst cx
  refine .go 6<|.cl (fun bK aZ=>CO s.parts (h3.ta.ext aZ) (by have:=p2.2.1; omega) p2.2.2.1 (w:=bK) (F:=all)) ?_
  intro bK aZ
  replace ⟨h4,W,J,af,ak,al,E,C⟩:=(se [ar,ae,ac] aZ).g8 h4 W J af ak al E C
  rintro dZ d0 ⟨⟨bL,cV,cW,rfl,ao,aI⟩,ba⟩
  have bM:=al3 af.lt J.lt W.lt
  have cy:Gb w.heap.size bK.heap.size:=E.size
  have hkeep_:=ba
  have cz:=Ah aI af.lt
  have cA:Cov nil aE bL:=BT aI C.size
  replace ⟨h4,W,J,af,ak,al,E,C⟩:=(sz [ar,ae,ac] ba aI).g8 h4 W J af ak al E C
  refine ⟨Ext.chg hkeep_,?_⟩
  replace ao:=Own.take (s0:=w.heap.size) (M:=[ar,ae,ac]) ao bM cy
  refine .d fun d3 bN=>?_
  replace ⟨h4,W,J,af,ak,al,ao,E,C⟩:=(se [bL,ar,ae,ac] bN).g9 h4 W J af ak al ao E C
  replace h4:=h4.Aa
  exact ⟨(cR,cS,cT,cU,bL,cV,cW,ar),⟨AA,AA,AA,AA,AA,trivial⟩,⟨C,(Ad cA),(Ad cu),(Nb.symm cz),ak,al,ao,af⟩⟩
 rintro ⟨bg,bh,bi,bj,aj,bk,bm,aq⟩ d4 az ⟨bc,aB,aC,cB,au,av,ay,bO⟩
 have dj:=Ah aB W.lt
 have dm:=Ah aB J.lt
 have cC:=Bo aB E.size
 have cD:=Ah aC J.lt
 have cE:=Bo aC E.size
 have dp:Cov nil w aq:=BT aC E.size
 have bP:Mv [ae,ac] [aj,aq,ae,ac] aE az:=Mv.cons (Mv.cons (Mv.ext bc) aC) aB
 replace ⟨h4,J,E⟩:=(sp bP bc).g3 h4 J E
 refine RG.BG (T:=30) (ty:=30) EU bO h4 AA AA (fun b h e=>h.2 (e▸AJ)) (by have:=p2.2.2.2; omega) fun bd bZ d5 ai aw bQ=>?_
 have dz:=Ag aw cD J.lt
 have dA:=Ag aw cB ay.lt
 have cF:=Bt aw cE E.size
 replace ⟨J,au,av,ay,E⟩:=(sa [aj,aq,ae,ac] bQ aw).g5 J au av ay E
 replace ai:=ai.rn aq
 refine .r 1<|.sc [.slice bg ((idxOf s.idx.names).names.length) bh,.slice bi ((idxOf s.idx.names).AY.length) bj,vS aj bk bm,vS bd (0+s.mem.length) bZ] J fun cX bR cG cH=>?_
 replace ⟨au,av,ay,ai,E⟩:=(so [aj,bd,ae,ac] bR).g5 au av ay ai E
 refine .d ?_
 have cY:=ay.sl cC
 replace ⟨au,av,ai⟩:=(sd cX [aj,bd,ae,ac] aj).g3 au av ai
 exact .rb func41 results41 cG ⟨⟨bg,(idxOf s.idx.names).names.length,bh,bi,(idxOf s.idx.names).AY.length,bj,(some ⟨aj,0,none⟩),bk,bm,bd,(0+s.mem.length),bZ,rfl,((RepS.Ap au (all_cons AI all_nil)).eqx AF),((RepS.Ap av (all_cons AI all_nil)).eqx AF),((RepS.Ap cY (all_cons AI all_nil)).eqx AF),((Own.Ap ai (all_cons AI all_nil)).eqx AF),cF⟩,E⟩
theorem Fb (s:Sto) (n:List Tag) (r:Row) (h1:RepS w F a1 n1 c1 s.idx.names) (h2:RepS w F a2 n2 c2 s.idx.AY) (h3:RepS w F a3 n3 c3 s.parts) (h4:RepS w F a4 n4 c4 s.mem) (h5:RepS w F a5 n5 c5 n) (p0:SD s) (p1:NmD n):Calls Tryz.prog 54 [.agg #[.slice a1 n1 c1,.slice a2 n2 c2,.slice a3 n3 c3,.slice a4 n4 c4],.slice a5 n5 c5,.agg #[.int .i64 r.t,.int .i64 r.v]].toArray w (BB fun rv w'=>(∃ v0,rv=.tuple #[v0,.bool ((Bd s n r).2)]∧VS (fo F w.heap.size) w' ((Bd s n r).1:Sto) v0)∧Ext w w'):=by
 refine goT func54 ?_
 obtain ⟨rfl,eE,h1⟩:=h1.tp
 obtain ⟨rfl,eF,h2⟩:=h2.tp
 obtain ⟨rfl,eG,h3⟩:=h3.tp
 obtain ⟨rfl,eH,h4⟩:=h4.tp
 obtain ⟨rfl,eI,h5⟩:=h5.tp
 refine .s<|.g<|.np 32 [.slice a1 s.idx.names.length c1,.slice a2 s.idx.AY.length c2,.slice a3 s.parts.length c3,.slice a4 s.mem.length c4] fun ae fi bM bz E cX=>?_
 replace ⟨h1,h2,h3,h4,h5⟩:=(sn [] bz bM).g5 h1 h2 h3 h4 h5
 have C:=bz
 refine .np 56 [vI r.t,vI r.v] fun af fj bN bO J cY=>?_
 replace ⟨h1,h2,h3,h4,h5,E,C⟩:=(sn [ae] bO bN).g7 h1 h2 h3 h4 h5 E C
 refine .np 32 [AH,AH,AH,AH] fun ag dG aL bP W cZ=>?_
 have eJ:=AX aL E.lt
 have eK:=AX aL J.lt
 have eL:=C.cn aL
 replace ⟨h1,h2,h3,h4,h5,E,J,C⟩:=(sn [af,ae] bP aL).g8 h1 h2 h3 h4 h5 E J C
 refine .r 1<|.d<|.s<|.s<|.g<|.ln E<|.cl (Ef s h1.ta h2.ta h3.ta h4.ta p0 (w:=dG) (F:=all)) ?_
 rintro fk dH ⟨rfl,bQ⟩
 replace ⟨h1,h2,h3,h4,h5,E,J,W,C⟩:=(se [ag,af,ae] bQ).g9 h1 h2 h3 h4 h5 E J W C
 cases eM:(Al s)
 ·refine .r 6<|.d<|.ct<|.s<|.g<|.r 1<|.sc [AH,AH,AH,AH] W fun fm bR c7 c8=>?_
  replace ⟨h1,h2,h3,h4,h5,E,J,C⟩:=(so [ag,af,ae] bR).g8 h1 h2 h3 h4 h5 E J C
  exact .r 1<|.d<|.r2 func54 results54 (.bx c7) (.t (.bool false)) ⟨⟨_,(CJ rfl (AG (by exact (congrArg Prod.snd (Ix (.inl ‹_›))).symm))),(VS.of (y:=(⟨(⟨([]:List (List Tag)),([]:List Pst)⟩:Idx),([]:List Prt),([]:List Smp)⟩:Sto)) ⟨_,rfl,⟨_,_,_,_,_,_,_,_,_,_,_,_,rfl,(RepS.Aj _ _ none 0 AE),(RepS.Aj _ _ none 0 AE),(RepS.Aj _ _ none 0 AE),(RepS.Aj _ _ none 0 AE)⟩⟩ (by exact (congrArg Prod.fst (Ix (.inl ‹_›))).symm))⟩,C⟩
 refine .r 3<|.cl (Et n h5.ta (w:=dH) (F:=all)) ?_
 rintro fp c9 ⟨rfl,bS⟩
 replace ⟨h1,h2,h3,h4,h5,E,J,W,C⟩:=(se [ag,af,ae] bS).g9 h1 h2 h3 h4 h5 E J W C
 cases eN:(BC n)
 ·refine .r 2<|.d<|.ct<|.s<|.g<|.r 1<|.sc [AH,AH,AH,AH] W fun fq bT da db=>?_
  replace ⟨h1,h2,h3,h4,h5,E,J,C⟩:=(so [ag,af,ae] bT).g8 h1 h2 h3 h4 h5 E J C
  exact .r 1<|.d<|.r2 func54 results54 (.bx da) (.t (.bool false)) ⟨⟨_,(CJ rfl (AG (by exact (congrArg Prod.snd (Ix (.inr ‹_›))).symm))),(VS.of (y:=(⟨(⟨([]:List (List Tag)),([]:List Pst)⟩:Idx),([]:List Prt),([]:List Smp)⟩:Sto)) ⟨_,rfl,⟨_,_,_,_,_,_,_,_,_,_,_,_,rfl,(RepS.Aj _ _ none 0 AE),(RepS.Aj _ _ none 0 AE),(RepS.Aj _ _ none 0 AE),(RepS.Aj _ _ none 0 AE)⟩⟩ (by exact (congrArg Prod.fst (Ix (.inr ‹_›))).symm))⟩,C⟩
 refine .r 2<|.d<|.cf<|.sk<|.s<|.g<|.ln E<|.cl (En s h1.ta h2.ta h3.ta h4.ta p0.nm p0.nd p0.sz (w:=c9) (F:=all)) ?_
 rintro ft bH ⟨⟨bI,fu,bJ,bK,fv,bL,bu,fw,bv,ak,aT,bA,rfl,aq,ar,ai,ah,aI⟩,bU⟩
 have aM:=al3 W.lt J.lt E.lt
 have bq:Gb w.heap.size c9.heap.size:=C.size
 have de:=Ah aI E.lt
 have df:=Ah aI J.lt
 have dg:=Ah aI W.lt
 have br:=Bo aI C.size
 have eO:Cov nil w ak:=BT aI C.size
 replace ⟨h1,h2,h3,h4,h5,E,J,W,C⟩:=(sz [ag,af,ae] bU aI).g9 h1 h2 h3 h4 h5 E J W C
 replace aq:RepS bH (nin (ge w.heap.size) [ak,ag,af,ae]) _ _ _ _:=RepS.Bc (s0:=w.heap.size) (M:=[ag,af,ae]) aq aM bq
 replace aq:=aq.base (G':=fo F w.heap.size) (fun _ _ h=>.inr h)
 have dI:=aq.max
 replace ar:RepS bH (nin (ge w.heap.size) [ak,ag,af,ae]) _ _ _ _:=RepS.Bc (s0:=w.heap.size) (M:=[ag,af,ae]) ar aM bq
 replace ar:=ar.base (G':=fo F w.heap.size) (fun _ _ h=>.inr h)
 have dJ:=ar.max
 replace ai:RepS bH (nin (ge w.heap.size) [ak,ag,af,ae]) _ _ _ _:=RepS.Bc (s0:=w.heap.size) (M:=[ag,af,ae]) ai aM bq
 replace ai:=ai.base (G':=fo F w.heap.size) (fun _ _ h=>.inr h)
 have dK:=ai.max
 replace ah:Own bH ak 85 (nin (ge w.heap.size) [ak,ag,af,ae]) _ _ _:=Own.Bc (s0:=w.heap.size) (M:=[ag,af,ae]) ah aM bq
 replace ah:=ah.base (G':=fo F w.heap.size) (fun _ _ h=>.inr h)
 have dM:=ah.len
 have b0:=aq.len
 subst b0
 have b6:=ar.len
 subst b6
 have b7:=ai.len
 subst b7
 refine .np 32 [AH,AH,AH,AH] fun aa eP aB aU b8 b9=>?_
 have dN:=AX aB E.lt
 have dO:=AX aB J.lt
 have dP:=AX aB W.lt
 have cd:=AX aB ah.lt
 have dQ:=C.cn aB
 replace ⟨h1,h2,h3,h4,h5,E,J,W,aq,ar,ai,ah⟩:=(sn [ak,ag,af,ae] aU aB).g12 h1 h2 h3 h4 h5 E J W aq ar ai ah
 replace C:=(sn [ak,ag,af,ae] aU aB).g1 C
 refine .sc [.slice bI (((((Am s)).idx).names).length) bJ,.slice bK (((((Am s)).idx).AY).length) bL,.slice bu ((((Am s)).parts).length) bv,vS ak aT bA] b8 fun bV aV al ce=>?_
 replace ⟨h1,h2,h3,h4,h5,E,J,W,aq,ar,ai,ah⟩:=(so [aa,ak,ag,af,ae] aV).g12 h1 h2 h3 h4 h5 E J W aq ar ai ah
 replace C:=(so [aa,ak,ag,af,ae] aV).g1 C
 refine .d<|.s<|.g<|.r 1<|.ln E<|.r 1<|.cl (Ie s.idx n h1 h2 h5 p0.ix p0.nd p1 (w:=bV) (F:=nin (fo F w.heap.size) [aa,ak,ag,af,ae])) ?_
 rintro eQ eR ⟨⟨eS,rfl,⟨_,rfl,⟨aN,eT,aO,aP,eU,aQ,rfl,ab,ac⟩⟩⟩,aW⟩
 have aX:=al5 al.lt ah.lt W.lt J.lt E.lt
 have bB:Gb w.heap.size bV.heap.size:=C.size
 replace ⟨h1,h2,h3,h4,E,J,W,aq,ar,ai,ah,al⟩:=(se [aa,ak,ag,af,ae] aW).g12 h1 h2 h3 h4 E J W aq ar ai ah al
 replace C:=(se [aa,ak,ag,af,ae] aW).g1 C
 replace ab:=RepS.Af (M:=[aa,ak,ag,af,ae]) ab aX bB
 have dR:=ab.max
 replace ac:=RepS.Af (M:=[aa,ak,ag,af,ae]) ac aX bB
 have dS:=ac.max
 have cg:=ab.len
 subst cg
 have ci:=ac.len
 subst ci
 refine .r 3 ?_
 cases dT:(CD s.idx n).2.2
 ·refine .r 1<|.np 28 [AH,AH] fun aR eV ax aY cj ck=>?_
  have dU:=AX ax E.lt
  have dV:=AX ax J.lt
  have dW:=AX ax W.lt
  have dX:=AX ax ah.lt
  have dY:=AX ax al.lt
  have dZ:=C.cn ax
  replace ⟨h1,h2,h3,h4,E,J,W,aq,ar,ai,ah,al⟩:=(sn [aa,ak,ag,af,ae] aY ax).g12 h1 h2 h3 h4 E J W aq ar ai ah al
  replace ⟨ab,ac,C⟩:=(sn [aa,ak,ag,af,ae] aY ax).g3 ab ac C
  refine .sc [.slice aN ((CD s.idx n).1.names.length) aO,.slice aP ((((CD s.idx n).1).AY).length) aQ] cj fun eW aZ d0 cm=>?_
  replace ⟨h1,h2,h3,h4,E,J,W,aq,ar,ai,ah,al⟩:=(so [aR,aa,ak,ag,af,ae] aZ).g12 h1 h2 h3 h4 E J W aq ar ai ah al
  replace ⟨ab,ac,C⟩:=(so [aR,aa,ak,ag,af,ae] aZ).g3 ab ac C
  refine .r 2<|.d<|.s<|.s<|.g<|.r 13<|.d<|.ct<|.s<|.g<|.ln al<|.sc [.slice bI (((((Am s)).idx).names).length) bJ,.slice bK (((((Am s)).idx).AY).length) bL,.slice bu ((((Am s)).parts).length) bv,vS ak aT bA] W fun dh ba co cp=>?_
  replace ⟨h1,h2,h3,h4,E,J,aq,ar,ai,ah,al,ab⟩:=(so [aR,aa,ak,ag,af,ae] ba).g12 h1 h2 h3 h4 E J aq ar ai ah al ab
  replace ⟨ac,C⟩:=(so [aR,aa,ak,ag,af,ae] ba).g2 ac C
  refine .r 1<|.d ?_
  have dj:=ah.sl (.inr br)
  replace ⟨h1,h2,h3,h4,aq,ar,ai,ab,ac⟩:=(sd dh [aR,aa,ak,ag,af,ae] ak).g9 h1 h2 h3 h4 aq ar ai ab ac
  exact .r2 func54 results54 (.bx co) (.t (.bool false)) ⟨⟨_,(CJ rfl (AG (by exact (congrArg Prod.snd (Pk p0 ‹_› ‹_› ‹_›)).symm))),(VS.of (y:=(⟨(⟨(((Am s)).idx).names,(((Am s)).idx).AY⟩:Idx),((Am s)).parts,((Am s)).mem⟩:Sto)) ⟨_,rfl,⟨_,_,_,_,_,_,_,_,_,_,_,_,rfl,aq.w1,ar.w1,ai.w1,dj.w1⟩⟩ (by exact (congrArg Prod.fst (Pk p0 ‹_› ‹_› ‹_›)).symm))⟩,C⟩
 refine .r 1<|.np 28 [AH,AH] fun aj eX ay bc cq cr=>?_
 have d3:=AX ay E.lt
 have d4:=AX ay J.lt
 have d5:=AX ay W.lt
 have cu:=AX ay ah.lt
 have d6:=AX ay al.lt
 have d7:=C.cn ay
 replace ⟨h1,h2,h3,h4,E,J,W,aq,ar,ai,ah,al⟩:=(sn [aa,ak,ag,af,ae] bc ay).g12 h1 h2 h3 h4 E J W aq ar ai ah al
 replace ⟨ab,ac,C⟩:=(sn [aa,ak,ag,af,ae] bc ay).g3 ab ac C
 refine .sc [.slice aN ((CD s.idx n).1.names.length) aO,.slice aP ((((CD s.idx n).1).AY).length) aQ] cq fun dm bd am cw=>?_
 replace ⟨h1,h2,h3,h4,E,J,W,aq,ar,ai,ah,al⟩:=(so [aj,aa,ak,ag,af,ae] bd).g12 h1 h2 h3 h4 E J W aq ar ai ah al
 replace ⟨ab,ac,C⟩:=(so [aj,aa,ak,ag,af,ae] bd).g3 ab ac C
 refine .r 2<|.d<|.s<|.s<|.g<|.r 3<|.ln J<|.cl (FH r (w:=dm) (F:=all)) ?_
 rintro eY eZ ⟨rfl,bg⟩
 replace ⟨h1,h2,h3,h4,E,J,W,aq,ar,ai,ah,al⟩:=(se [aj,aa,ak,ag,af,ae] bg).g12 h1 h2 h3 h4 E J W aq ar ai ah al
 replace ⟨ab,ac,am,C⟩:=(se [aj,aa,ak,ag,af,ae] bg).g4 ab ac am C
 cases d8:(Bi r)
 ·refine .r 8<|.d<|.ct<|.s<|.g<|.ln al<|.sc [.slice bI (((((Am s)).idx).names).length) bJ,.slice bK (((((Am s)).idx).AY).length) bL,.slice bu ((((Am s)).parts).length) bv,vS ak aT bA] W fun dp bh cx cy=>?_
  replace ⟨h1,h2,h3,h4,E,J,aq,ar,ai,ah,al,ab⟩:=(so [aj,aa,ak,ag,af,ae] bh).g12 h1 h2 h3 h4 E J aq ar ai ah al ab
  replace ⟨ac,am,C⟩:=(so [aj,aa,ak,ag,af,ae] bh).g3 ac am C
  refine .r 1<|.d ?_
  have dq:=ah.sl (.inr br)
  replace ⟨h1,h2,h3,h4,aq,ar,ai,ab,ac⟩:=(sd dp [aj,aa,ak,ag,af,ae] ak).g9 h1 h2 h3 h4 aq ar ai ab ac
  exact .r2 func54 results54 (.bx cx) (.t (.bool false)) ⟨⟨_,(CJ rfl (AG (by exact (congrArg Prod.snd (Pl p0 ‹_› ‹_› ‹_›)).symm))),(VS.of (y:=(⟨(⟨(((Am s)).idx).names,(((Am s)).idx).AY⟩:Idx),((Am s)).parts,((Am s)).mem⟩:Sto)) ⟨_,rfl,⟨_,_,_,_,_,_,_,_,_,_,_,_,rfl,aq.w1,ar.w1,ai.w1,dq.w1⟩⟩ (by exact (congrArg Prod.fst (Pl p0 ‹_› ‹_› ‹_›)).symm))⟩,C⟩
 refine .r 4<|.lb E<|.r 1<|.eq (s.mem.length:Int) 20 (fun cz=>?_) (fun cz=>?_)
 ·refine .r 1<|.d<|.ct<|.s<|.g<|.ln al<|.sc [.slice bI (((((Am s)).idx).names).length) bJ,.slice bK (((((Am s)).idx).AY).length) bL,.slice bu ((((Am s)).parts).length) bv,vS ak aT bA] W fun dr bi cA cB=>?_
  replace ⟨h1,h2,h3,h4,E,J,aq,ar,ai,ah,al,ab⟩:=(so [aj,aa,ak,ag,af,ae] bi).g12 h1 h2 h3 h4 E J aq ar ai ah al ab
  replace ⟨ac,am,C⟩:=(so [aj,aa,ak,ag,af,ae] bi).g3 ac am C
  refine .r 1<|.d ?_
  have dt:=ah.sl (.inr br)
  replace ⟨h1,h2,h3,h4,aq,ar,ai,ab,ac⟩:=(sd dr [aj,aa,ak,ag,af,ae] ak).g9 h1 h2 h3 h4 aq ar ai ab ac
  exact .r2 func54 results54 (.bx cA) (.t (.bool false)) ⟨⟨_,(CJ rfl (AG (by exact (congrArg Prod.snd (Pm p0 ‹_› ‹_› ‹_›)).symm))),(VS.of (y:=(⟨(⟨(((Am s)).idx).names,(((Am s)).idx).AY⟩:Idx),((Am s)).parts,((Am s)).mem⟩:Sto)) ⟨_,rfl,⟨_,_,_,_,_,_,_,_,_,_,_,_,rfl,aq.w1,ar.w1,ai.w1,dt.w1⟩⟩ (by exact (congrArg Prod.fst (Pm p0 ‹_› ‹_› ‹_›)).symm))⟩,C⟩
 refine .r 1<|.d<|.cf<|.sk<|.s<|.g<|.ln am<|.r 1<|.sb 0 (.agg #[.slice aN ((CD s.idx n).1.names.length) aO,.slice aP ((((CD s.idx n).1).AY).length) aQ]) [.slice aN ((CD s.idx n).1.names.length) aO,.slice aP ((((CD s.idx n).1).AY).length) aQ,.slice bu ((((Am s)).parts).length) bv,vS ak aT bA] al fun e7 bj aC cC=>?_
 replace ⟨h1,h2,h3,h4,E,J,W,ai,ah,ab,ac,am⟩:=(so [aj,aa,ak,ag,af,ae] bj).g12 h1 h2 h3 h4 E J W ai ah ab ac am
 replace C:=(so [aj,aa,ak,ag,af,ae] bj).g1 C
 refine .d<|.s<|.g<|.r 1<|.lb aC<|.r 1<|.ln J<|.r 1<|.ns 1 85 [vI ((CD s.idx n).2.1),vI r.t,vI r.v] fun bW e8 aD bk cD cE=>?_
 have cF:=AX aD E.lt
 have cG:=AX aD J.lt
 have cH:=AX aD W.lt
 have bC:=AX aD ah.lt
 have cI:=AX aD aC.lt
 have cJ:=AX aD am.lt
 have cK:=Ae aD C.size
 replace ⟨h1,h2,h3,h4,E,J,W,ai,ah,aC,ab,ac⟩:=(se [aj,aa,ak,ag,af,ae] bk).g12 h1 h2 h3 h4 E J W ai ah aC ab ac
 replace ⟨am,C⟩:=(se [aj,aa,ak,ag,af,ae] bk).g2 am C
 have bw:nin (fo F w.heap.size) [aj,aa,ak,ag,af,ae] bW∧bW≠ak:=BR (.inr cK) (all_cons cJ (all_cons cI (all_cons bC (all_cons cH (all_cons cG (all_cons cF all_nil)))))) bC
 refine RG.Ax (T:=30) (ty:=30) (y:=(⟨(CD s.idx n).2.1,(⟨r.t,r.v⟩:Row)⟩:Smp)) ah cD AA AA rfl bw (by have q1:=p0.nm2; have q2:(Am s).mem.length=s.mem.length:=rfl; omega) fun au bX fa ao av bm=>?_
 have ec:=Ag av de E.lt
 have ed:=Ag av df J.lt
 have ee:=Ag av dg W.lt
 have ef:=Ag av (Nb.symm cd) aC.lt
 have eg:=Ag av (Nb.symm cu) am.lt
 have cL:=Bt av br C.size
 replace ⟨h1,h2,h3,h4,E,J,W,ai,aC,ab,ac,am⟩:=(sa [aj,aa,ak,ag,af,ae] bm av).g12 h1 h2 h3 h4 E J W ai aC ab ac am
 replace C:=(sa [aj,aa,ak,ag,af,ae] bm av).g1 C
 replace ao:=ao.rn ak
 refine .r 1<|.ss 3 (vS au (aT+1) bX) aC fun bY bn aw cM=>?_
 replace ⟨h1,h2,h3,h4,E,J,W,ai,ao,ab,ac,am⟩:=(so [aj,aa,au,ag,af,ae] bn).g12 h1 h2 h3 h4 E J W ai ao ab ac am
 replace C:=(so [aj,aa,au,ag,af,ae] bn).g1 C
 refine .d<|.s<|.s<|.g<|.ln aw<|.r 1<|.cl (Dj (⟨(⟨(CD s.idx n).1.names,((CD s.idx n).1).AY⟩:Idx),((Am s)).parts,(((Am s)).mem++[(⟨(CD s.idx n).2.1,(⟨r.t,r.v⟩:Row)⟩:Smp)])⟩:Sto) ((CD s.idx n).2.1) ab.ta ac.ta ai.ta (ao.rep) (by exact (StoK.of p0 ‹_›).part) (RR (StoK.of p0 ‹_›) ‹_›) (by have q1:=p0.np; exact Nat.le_trans q1 AB) (by have q1:=p0.nm2; simp only [Am,List.length_append,List.length_cons,List.length_nil]; omega) (w:=bY) (F:=all)) ?_
 rintro fb bZ ⟨⟨fc,fd,rfl,aS⟩,bo⟩
 have bD:=al6 am.lt aw.lt ao.lt W.lt J.lt E.lt
 have cN:Gb w.heap.size bY.heap.size:=C.size
 replace ⟨h1,h2,h3,h4,E,J,W,ai,ao,aw,ab,ac⟩:=(se [aj,aa,au,ag,af,ae] bo).g12 h1 h2 h3 h4 E J W ai ao aw ab ac
 replace ⟨am,C⟩:=(se [aj,aa,au,ag,af,ae] bo).g2 am C
 have aS:=aS.fr bD cN
 replace aS:=aS.base (G':=fo F w.heap.size) (fun _ _ h=>.inr h)
 refine .r 1<|.bp ((((rowsOf (⟨(⟨(CD s.idx n).1.names,((CD s.idx n).1).AY⟩:Idx),((Am s)).parts,(((Am s)).mem++[(⟨(CD s.idx n).2.1,(⟨r.t,r.v⟩:Row)⟩:Smp)])⟩:Sto) ((CD s.idx n).2.1)).length):Int) > 24) (fun cO=>?_) (fun cO=>?_)
 ·refine .d<|.ct<|.s<|.g<|.ln E<|.cl (En s h1.ta h2.ta h3.ta h4.ta p0.nm p0.nd p0.sz (w:=bZ) (F:=all)) ?_
  rintro fe bt ⟨⟨du,ff,dv,dw,fg,dx,dy,fh,dz,aH,dA,dB,rfl,aE,aF,aG,az,aA⟩,bE⟩
  have aJ:=al6 am.lt aw.lt ao.lt W.lt J.lt E.lt
  have aK:Gb w.heap.size bZ.heap.size:=C.size
  have en:=Ah aA E.lt
  have et:=Ah aA J.lt
  have ey:=Ah aA W.lt
  have ez:=Ah aA ao.lt
  have eA:=Ah aA aw.lt
  have eB:=Ah aA am.lt
  have cP:=Bo aA C.size
  replace ⟨W,ai,ao,aw,ab,ac,C⟩:=(sz [aj,aa,au,ag,af,ae] bE aA).g7 W ai ao aw ab ac C
  replace aE:RepS bt (nin (ge w.heap.size) [aH,aj,aa,au,ag,af,ae]) _ _ _ _:=RepS.Bc (s0:=w.heap.size) (M:=[aj,aa,au,ag,af,ae]) aE aJ aK
  replace aE:=aE.base (G':=fo F w.heap.size) (fun _ _ h=>.inr h)
  replace aF:RepS bt (nin (ge w.heap.size) [aH,aj,aa,au,ag,af,ae]) _ _ _ _:=RepS.Bc (s0:=w.heap.size) (M:=[aj,aa,au,ag,af,ae]) aF aJ aK
  replace aF:=aF.base (G':=fo F w.heap.size) (fun _ _ h=>.inr h)
  replace aG:RepS bt (nin (ge w.heap.size) [aH,aj,aa,au,ag,af,ae]) _ _ _ _:=RepS.Bc (s0:=w.heap.size) (M:=[aj,aa,au,ag,af,ae]) aG aJ aK
  replace aG:=aG.base (G':=fo F w.heap.size) (fun _ _ h=>.inr h)
  replace az:Own bt aH 85 (nin (ge w.heap.size) [aH,aj,aa,au,ag,af,ae]) _ _ _:=Own.Bc (s0:=w.heap.size) (M:=[aj,aa,au,ag,af,ae]) az aJ aK
  replace az:=az.base (G':=fo F w.heap.size) (fun _ _ h=>.inr h)
  have cQ:=aE.len
  subst cQ
  have cR:=aF.len
  subst cR
  have cS:=aG.len
  subst cS
  refine .sc [.slice du (((((Am s)).idx).names).length) dv,.slice dw (((((Am s)).idx).AY).length) dx,.slice dy ((((Am s)).parts).length) dz,vS aH dA dB] W fun dC bF cT cU=>?_
  replace ⟨ai,ao,aw,ab,ac,aE,aF,aG,az,C⟩:=(so [aH,aj,aa,au,ag,af,ae] bF).g10 ai ao aw ab ac aE aF aG az C
  refine .r 1<|.d ?_
  have dD:=az.sl (.inr cP)
  replace ⟨ai,ao,ab,ac,aE,aF,aG⟩:=(sd dC [aH,aj,aa,au,ag,af,ae] aH).g7 ai ao ab ac aE aF aG
  exact .r2 func54 results54 (.bx cT) (.t (.bool false)) ⟨⟨_,(CJ rfl (AG (by exact (congrArg Prod.snd (Pn p0 ‹_› ‹_› ‹_› ‹_› ‹_› ‹_›)).symm))),(VS.of (y:=(⟨(⟨(((Am s)).idx).names,(((Am s)).idx).AY⟩:Idx),((Am s)).parts,((Am s)).mem⟩:Sto)) ⟨_,rfl,⟨_,_,_,_,_,_,_,_,_,_,_,_,rfl,aE.w1,aF.w1,aG.w1,dD.w1⟩⟩ (by exact (congrArg Prod.fst (Pn p0 ‹_› ‹_› ‹_› ‹_› ‹_› ‹_›)).symm))⟩,C⟩
 refine .d<|.cf<|.sk<|.s<|.g<|.ln aw<|.sc [.slice aN ((CD s.idx n).1.names.length) aO,.slice aP ((((CD s.idx n).1).AY).length) aQ,.slice bu ((((Am s)).parts).length) bv,vS au (aT+1) bX] W fun dE bG cV cW=>?_
 replace ⟨ai,ao,ab,ac,C⟩:=(so [aj,aa,au,ag,af,ae] bG).g5 ai ao ab ac C
 refine .r 1<|.d ?_
 have dF:=ao.sl (.inr cL)
 replace ⟨ai,ab,ac⟩:=(sd dE [aj,aa,au,ag,af,ae] au).g3 ai ab ac
 exact .r2 func54 results54 (.bx cV) (.t (.bool true)) ⟨⟨_,(CJ rfl (AG (by exact (congrArg Prod.snd (Po p0 ‹_› ‹_› ‹_› ‹_› ‹_› ‹_›)).symm))),(VS.of (y:=(⟨(⟨(CD s.idx n).1.names,((CD s.idx n).1).AY⟩:Idx),((Am s)).parts,(((Am s)).mem++[(⟨(CD s.idx n).2.1,(⟨r.t,r.v⟩:Row)⟩:Smp)])⟩:Sto)) ⟨_,rfl,⟨_,_,_,_,_,_,_,_,_,_,_,_,rfl,ab.w1,ac.w1,ai.w1,dF.w1⟩⟩ (by exact (congrArg Prod.fst (Po p0 ‹_› ‹_› ‹_› ‹_› ‹_› ‹_›)).symm))⟩,C⟩
end Go.Proofs.YtggnnidleedpaaaGreat
namespace Go.Proofs.YtggnnidleedpaaaGreat
def look (t:Int) (b:List Row):Option Row:=b.find? (fun r=>r.t==t)
theorem Bl (t:Int) (r:Row) (b:List Row):look t (r::b)=if r.t=t then some r else look t b:=by
 unfold look
 rw [List.find?_cons]
 by_cases h:r.t=t
 ·simp [h]
 ·have:(r.t==t)=false:=beq_eq_false_iff_ne.2 h
  rw [this,if_neg h]
theorem Lz (t:Int) (r:Row):∀ (b:List Row),look t (Cx r b)=if r.t=t then some r else look t b:=by
 intro b
 induction b with
 | nil=>unfold Cx; rw [Bl]
 | cons x xs ih =>
   unfold Cx
   by_cases h1:r.t< x.t
   ·rw [if_pos h1,Bl]
   ·rw [if_neg h1]
    by_cases h2:r.t=x.t
    ·rw [if_pos h2,Bl,Bl]
     by_cases h:r.t=t
     ·rw [if_pos h,if_pos h]
     ·rw [if_neg h,if_neg h,if_neg AB]
    ·rw [if_neg h2,Bl,ih,Bl]
     by_cases h:r.t=t
     ·rw [if_pos h,if_neg AB,if_pos h]
     ·rw [if_neg h,if_neg h]
theorem Blk.tl {r:Row}{b:List Row}(h:Blk (r::b)):Blk b∧Bi r=true∧∀ q∈b,r.t< q.t:=by
 obtain ⟨h1,_,h3⟩:=Bj.1 h
 exact ⟨Lg h3,h1,KG b r h3⟩
theorem Hy {t:Int}:∀ {b:List Row},(∀ q∈b,t≠q.t)→look t b=none:=by
 intro b
 induction b with
 | nil=>intro _; rfl
 | cons x xs ih =>
   intro h
   rw [Bl,if_neg (fun e=>h x AD e.symm)]
   exact ih (fun q hq=>h q (by simp [hq]))
theorem Hz {t:Int}{q:Row}:∀ {b:List Row},look t b=some q→q.t=t∧q∈b:=by
 intro b h
 have h1:=List.find?_some h
 exact ⟨by simpa using h1,List.mem_of_find?_eq_some h⟩
theorem Cg (t:Int):∀ {b:List Row}(o:List Row),Blk o→Blk b→look t (Bg o b)=(look t b).or (look t o):=by
 intro b
 induction b with
 | nil=>intro o _ _; rfl
 | cons x xs ih =>
   intro o ho hb
   obtain ⟨h1,h2,h3⟩:=hb.tl
   have e:Bg o (x::xs)=Bg (DR o x) xs:=rfl
   rw [e,ih _ (ho.put h2) h1,E7 ho,Lz,Bl]
   by_cases h:x.t=t
   ·rw [if_pos h,if_pos h,Hy (fun q hq=>by have:=h3 q hq; omega)]
    rfl
   ·rw [if_neg h,if_neg h]
theorem JY:∀ {a b:List Row},Blk a→Blk b→(∀ t,look t a=look t b)→a=b:=by
 intro a
 induction a with
 | nil =>
   intro b _ _ h
   cases b with
   | nil=>rfl
   | cons y ys =>
     have:=h y.t
     rw [Bl,if_pos rfl] at this
     cases this
 | cons x xs ih =>
   intro b ha hb h
   cases b with
   | nil =>
     have:=h x.t
     rw [Bl,if_pos rfl] at this
     cases this
   | cons y ys =>
     obtain ⟨a1,_,a3⟩:=ha.tl
     obtain ⟨b1,_,b3⟩:=hb.tl
     have hx:=h x.t
     have hy:=h y.t
     rw [Bl,if_pos rfl,Bl] at hx
     rw [Bl,Bl,if_pos rfl] at hy
     by_cases e:x.t=y.t
     ·rw [if_pos e.symm] at hx
      cases hx
      congr 1
      refine ih a1 b1 (fun t=>?_)
      have ht:=h t
      rw [Bl,Bl] at ht
      by_cases e2:x.t=t
      ·rw [Hy (fun q hq=>by have:=a3 q hq; omega),Hy (fun q hq=>by have:=b3 q hq; omega)]
      ·rw [if_neg e2,if_neg e2] at ht
       exact ht
     ·rw [if_neg (fun e2=>e e2.symm)] at hx
      rw [if_neg e] at hy
      have h1:=b3 x (Hz hx.symm).2
      have h2:=a3 y (Hz hy).2
      omega
theorem LG:∀ {b a:List Row},Blk a→Blk b→(∀ t,(look t a).isSome=true→(look t b).isSome=true)→a.length≤b.length:=by
 intro b
 induction b with
 | nil =>
   intro a _ _ h
   cases a with
   | nil=>exact Nat.le_refl _
   | cons x xs =>
     have:=h x.t (by rw [Bl,if_pos rfl]; rfl)
     cases this
 | cons y ys ih =>
   intro a ha hb h
   obtain ⟨b1,_,b3⟩:=hb.tl
   cases a with
   | nil=>simp
   | cons x xs =>
     obtain ⟨a1,_,a3⟩:=ha.tl
     have hx:=h x.t (by rw [Bl,if_pos rfl]; rfl)
     rw [Bl] at hx
     by_cases e:y.t=x.t
     ·simp only [List.length_cons]
      refine Nat.succ_le_succ (ih a1 b1 (fun t ht=>?_))
      obtain ⟨q,hq⟩:=Option.isSome_iff_exists.1 ht
      have hq2:=Hz hq
      have h4:=a3 q hq2.2
      have h5:=h t (by rw [Bl,if_neg AB]; exact ht)
      rw [Bl,if_neg AB] at h5
      exact h5
     ·rw [if_neg e] at hx
      obtain ⟨q,hq⟩:=Option.isSome_iff_exists.1 hx
      have hq2:=Hz hq
      have h4:=b3 q hq2.2
      refine Nat.le_succ_of_le (ih ha b1 (fun t ht=>?_))
      obtain ⟨u,hu⟩:=Option.isSome_iff_exists.1 ht
      have hu2:=Hz hu
      have h6:x.t≤u.t:=by
       rcases List.mem_cons.1 hu2.2 with e2 | hm
       ·rw [e2]; exact Int.le_refl _
       ·have:=a3 u hm; omega
      have h5:=h t ht
      rw [Bl,if_neg AB] at h5
      exact h5
theorem LH {a b c:List Row}(ha:Blk a) (hb:Blk b) (hc:Blk c):Bg (Bg a b) c=Bg a (Bg b c) :=
 JY ((ha.merge hb).merge hc) (ha.merge (hb.merge hc)) (fun t=>by
  rw [Cg t _ (ha.merge hb) hc,Cg t _ ha hb,Cg t _ ha (hb.merge hc),Cg t _ hb hc,Option.or_assoc])
theorem JZ (a:List Row):Bg a []=a:=rfl
theorem Pu (id:Int):∀ (bs:List (List Row)) (i:Nat),Bm id (BY i bs).1 (BY i bs).2=if (i:Int)+1≤id then bs.getD (id - i - 1).toNat [] else []:=by
 intro bs
 induction bs with
 | nil=>intro i; simp [BY,Bm]
 | cons b bs ih =>
   intro i
   have h1:=ih (i+1)
   unfold BY
   by_cases hb:b.length > 0
   ·rw [if_pos hb]
    unfold Bm
    by_cases he:(i:Int)+1=id
    ·rw [if_pos (by simpa using he),if_pos AB,show (id - i - 1).toNat=0 by omega]
     rfl
    ·rw [if_neg (by simpa using he),h1]
     by_cases h2:(i:Int)+1≤id
     ·rw [if_pos AB,if_pos h2,show (id - i - 1).toNat=(id - (i+1:Nat) - 1).toNat+1 by omega]
      rfl
     ·rw [if_neg AB,if_neg h2]
   ·rw [if_neg hb,h1]
    have:b=[]:=List.length_eq_zero_iff.1 AB
    subst this
    by_cases h2:(i:Int)+1≤id
    ·rw [if_pos h2]
     by_cases he:(i:Int)+1=id
     ·rw [if_neg AB,show (id - i - 1).toNat=0 by omega]
      rfl
     ·rw [if_pos AB,show (id - i - 1).toNat=(id - (i+1:Nat) - 1).toNat+1 by omega]
      rfl
    ·rw [if_neg AB,if_neg h2]
theorem L0 (bs:List (List Row)){id:Int}(h:1≤id):partOf (C2 bs) id=bs.getD (id - 1).toNat []:=by
 unfold partOf C2
 have:=Pu id bs 0
 rw [if_pos AB] at this
 rw [this,show (id - (0:Nat) - 1)=id - 1 by omega]
theorem C6:∀ (bs:List (List Row)) (i:Nat) (b:List Row),BY i (bs++[b])=if b.length > 0 then ((BY i bs).1++[(i:Int)+bs.length+1],(BY i bs).2++[b]) else BY i bs:=by
 intro bs
 induction bs with
 | nil=>intro i b; simp [BY]
 | cons x xs ih =>
   intro i b
   rw [List.cons_append]
   have h1:=ih (i+1) b
   unfold BY
   rw [h1]
   by_cases hb:b.length > 0
   ·rw [if_pos hb,if_pos hb]
    simp only [List.length_cons]
    split <;> simp <;> omega
   ·rw [if_neg hb,if_neg hb]
def Ds (mem:List Smp):Sto:=⟨⟨[],[]⟩,[],mem⟩
def DC (mem:List Smp) (n:Nat):List (List Row):=(List.range n).map (fun (i:Nat)=>rowsOf (Ds mem) ((i:Int)+1))
theorem F1 (mem:List Smp) (n:Nat):(DC mem n).length=n:=by simp [DC]
theorem OX (mem:List Smp) (n:Nat):DC mem (n+1)=DC mem n++[rowsOf (Ds mem) ((n:Int)+1)]:=by simp [DC,List.range_succ]
theorem OY (mem:List Smp) (m:Smp) (h:1≤m.id∧m.id≤6):DC (mem++[m]) 6=Ff (DC mem 6) m:=by
 have key:∀ id:Int,rowsOf (Ds (mem++[m])) id=CV id (rowsOf (Ds mem) id) m:=fun id=>by
  unfold rowsOf Ds
  simp only [List.foldl_append,List.foldl_cons,List.foldl_nil]
 refine List.ext_getElem? (fun i=>?_)
 unfold Ff
 rw [List.getElem?_set]
 by_cases hi:i< 6
 ·have e:∀ mem:List Smp,(DC mem 6)[i]? = some (rowsOf (Ds mem) ((i:Int)+1)):=fun mem=>by unfold DC; rw [List.getElem?_map,List.getElem?_range hi]; rfl
  rw [e,key]
  by_cases h2:(m.id - 1).toNat=i
  ·rw [if_pos h2,if_pos (by rw [F1]; omega),List.getD_eq_getElem?_getD,h2,e]
   unfold CV
   rw [if_pos (by simp; omega)]
   rfl
  ·rw [if_neg h2,e]
   unfold CV
   rw [if_neg (by simp; omega)]
 ·rw [List.getElem?_eq_none (by rw [F1]; omega),if_neg AB,List.getElem?_eq_none (by rw [F1]; omega)]
theorem RT {mem:List Smp}(h:∀ m∈mem,1≤m.id∧m.id≤6):mem.foldl Ff [[],[],[],[],[],[]]=DC mem 6:=by
 have key:∀ (ms pre:List Smp),(∀ m∈ms,1≤m.id∧m.id≤6)→ms.foldl Ff (DC pre 6)=DC (pre++ms) 6:=by
  intro ms
  induction ms with
  | nil=>intro pre _; simp
  | cons m ms ih =>
    intro pre h
    rw [List.foldl_cons,← OY pre m (h m AD),ih (pre++[m]) (fun q hq=>h q (by simp [hq]))]
    simp
 have:=key mem [] h
 rw [List.nil_append] at this
 rw [← this]
 rfl
theorem Gs {mem:List Smp}(h:∀ m∈mem,1≤m.id∧m.id≤6):BJ mem=C2 (DC mem 6):=by unfold BJ; rw [RT h]
theorem M4 {mem:List Smp}(h:∀ m∈mem,1≤m.id∧m.id≤6){id:Int}(h1:1≤id) (h2:id≤6):partOf (BJ mem) id=rowsOf (Ds mem) id:=by
 rw [Gs h,L0 _ h1,List.getD_eq_getElem?_getD]
 unfold DC
 rw [List.getElem?_map,List.getElem?_range AB]
 simp only [Option.map_some,Option.getD_some]
 rw [show (((id - 1).toNat:Nat):Int)+1=id by omega]
def HL (t id:Int) (mem:List Smp) (x:Option Row):Option Row:=mem.foldl (fun acc m=>if m.id=id∧m.row.t=t then some m.row else acc) x
theorem Pv (t id:Int):∀ (mem:List Smp) (x:Option Row),HL t id mem x=(HL t id mem none).or x:=by
 intro mem
 induction mem with
 | nil=>intro x; rfl
 | cons m ms ih =>
   intro x
   unfold HL at ih ⊢
   rw [List.foldl_cons,List.foldl_cons]
   by_cases h:m.id=id∧m.row.t=t
   ·rw [if_pos h,if_pos h,ih (some m.row)]
    cases List.foldl (fun acc m=>if m.id=id∧m.row.t=t then some m.row else acc) none ms <;> rfl
   ·rw [if_neg h,if_neg h,ih x]
theorem Dl (t id:Int):∀ (mem:List Smp) (o:List Row),(∀ m∈mem,Bi m.row=true)→Blk o→look t (mem.foldl (CV id) o)=HL t id mem (look t o)∧Blk (mem.foldl (CV id) o):=by
 intro mem
 induction mem with
 | nil=>intro o _ ho; exact ⟨rfl,ho⟩
 | cons m ms ih =>
   intro o h ho
   have h1:Blk (CV id o m):=by
    unfold CV
    split
    ·exact ho.put (h m AD)
    ·exact ho
   obtain ⟨h2,h3⟩:=ih (CV id o m) (fun q hq=>h q (by simp [hq])) h1
   refine ⟨?_,h3⟩
   rw [List.foldl_cons,h2]
   unfold HL
   rw [List.foldl_cons]
   congr 1
   by_cases hid:m.id=id
   ·rw [KR hid ho,Lz]
    by_cases ht:m.row.t=t
    ·rw [if_pos ht,if_pos ⟨hid,ht⟩]
    ·rw [if_neg ht,if_neg (fun e=>ht e.2)]
   ·rw [Fy hid,if_neg (fun e=>hid e.1)]
theorem mem_merge {id:Int}{mem:List Smp}{o:List Row}(h:∀ m∈mem,Bi m.row=true) (ho:Blk o):mem.foldl (CV id) o=Bg o (rowsOf (Ds mem) id):=by
 have a:=fun t=>(Dl t id mem o h ho).1
 have b:=fun t=>(Dl t id mem [] h Blk.nil).1
 have bb:Blk (rowsOf (Ds mem) id):=(Dl 0 id mem [] h Blk.nil).2
 refine JY (Dl 0 id mem o h ho).2 (ho.merge bb) (fun t=>?_)
 rw [a,Cg t _ ho bb]
 have e:look t (rowsOf (Ds mem) id)=HL t id mem none:=b t
 rw [e,← Pv]
def DE (s:Sto):Sto:=⟨s.idx,s.parts++[BJ s.mem],[]⟩
theorem FB {id:Int}:∀ {ps:List Prt}{o:List Row},(∀ p∈ps,PrtI p)→Blk o→Blk (ps.foldl (CK id) o):=by
 intro ps
 induction ps with
 | nil=>intro o _ ho; exact ho
 | cons p ps ih=>intro o hp ho; exact ih (fun q hq=>hp q (by simp [hq])) (ho.merge ((hp p AD).of id))
theorem M5 {s:Sto}(h:StoK s){id:Int}(h1:1≤id) (h2:id≤6):rowsOf (DE s) id=rowsOf s id:=by
 unfold rowsOf DE
 simp only [List.foldl_append,List.foldl_cons,List.foldl_nil]
 have hb:Blk (s.parts.foldl (CK id) []):=FB h.sd.part Blk.nil
 rw [mem_merge h.row hb]
 unfold CK
 rw [M4 h.JW.Hg h1 h2]
theorem Nq {s:Sto}(h:StoK s) (id t:Int):((look t (s.parts.foldl (CK id) [])).isSome=true∨(look t (rowsOf (Ds s.mem) id)).isSome=true)→(look t (rowsOf s id)).isSome=true:=by
 intro h1
 have hb:Blk (s.parts.foldl (CK id) []):=FB h.sd.part Blk.nil
 have bb:Blk (rowsOf (Ds s.mem) id):=(Dl 0 id s.mem [] h.row Blk.nil).2
 have e:rowsOf s id=Bg (s.parts.foldl (CK id) []) (rowsOf (Ds s.mem) id):=mem_merge h.row hb
 rw [e,Cg t _ hb bb]
 rcases h1 with h1 | h1
 ·cases look t (rowsOf (Ds s.mem) id) with
  | none=>exact h1
  | some q=>rfl
 ·obtain ⟨q,hq⟩:=Option.isSome_iff_exists.1 h1
  rw [hq]; rfl
theorem RU {s:Sto}(h:StoK s){id:Int}(h24:(rowsOf s id).length≤24):(rowsOf (Ds s.mem) id).length≤24:=by
 have hb:Blk (s.parts.foldl (CK id) []):=FB h.sd.part Blk.nil
 have bb:Blk (rowsOf (Ds s.mem) id):=(Dl 0 id s.mem [] h.row Blk.nil).2
 have e:rowsOf s id=Bg (s.parts.foldl (CK id) []) (rowsOf (Ds s.mem) id):=mem_merge h.row hb
 refine Nat.le_trans (LG bb (b:=rowsOf s id) ?_ (fun t ht=>Nq h id t (.inr ht))) h24
 rw [e]
 exact hb.merge bb
theorem Pw:∀ (bs:List (List Row)) (i:Nat) (o:Option Int),(∀ b∈bs,Blk b∧b.length≤24)→i+bs.length≤6→(∀ q,o=some q→q≤i)→CA o (BY i bs).1 (BY i bs).2=true:=by
 intro bs
 induction bs with
 | nil=>intro i o _ _ _; rfl
 | cons b bs ih =>
   intro i o h hl ho
   simp only [List.length_cons] at hl
   unfold BY
   by_cases hb:b.length > 0
   ·rw [if_pos hb]
    unfold CA
    have h1:=ih (i+1) (some ((i:Int)+1)) (fun x hx=>h x (by simp [hx])) AB (fun q hq=>by cases hq; omega)
    obtain ⟨h2,h3⟩:=h b AD
    have h4:Bp b=true:=by
     unfold Bp
     have h2':CX none b=true:=h2
     rw [h2',Bool.true_and,decide_eq_true_eq]; exact h3
    rw [h1,h4,decide_eq_true hb]
    have h5:inR ((i:Int)+1) 1 6=true:=by unfold inR; simp; omega
    rw [h5]
    cases o with
    | none=>rfl
    | some q =>
      have:=ho q rfl
      simp
      omega
   ·rw [if_neg hb]
    exact ih (i+1) o (fun x hx=>h x (by simp [hx])) AB (fun q hq=>by have:=ho q hq; omega)
theorem L1 {bs:List (List Row)}(h:∀ b∈bs,Blk b∧b.length≤24) (hl:bs.length≤6):Az (C2 bs)=true:=by
 unfold Az
 have h1:=(KI bs 0).1
 have h2:=Pw bs 0 none h AB AD
 have h3:CA none (C2 bs).ids (C2 bs).blocks=true:=h2
 have h4:(C2 bs).ids.length=(C2 bs).blocks.length:=h1
 rw [h3,decide_eq_true h4]
 rfl
theorem OZ:∀ (bs:List (List Row)) (i:Nat) (x:Int),x∈(BY i bs).1→∃ k:Nat,x=(i:Int)+k+1∧∃ b,bs[k]? = some b∧0< b.length:=by
 intro bs
 induction bs with
 | nil=>intro i x h; simp [BY] at h
 | cons b bs ih =>
   intro i x h
   unfold BY at h
   by_cases hb:b.length > 0
   ·rw [if_pos hb] at h
    rcases List.mem_cons.1 h with rfl | h
    ·exact ⟨0,by simp,b,rfl,hb⟩
    ·obtain ⟨k,h1,c,h2,h3⟩:=ih (i+1) x h
     exact ⟨k+1,by rw [h1]; push_cast; omega,c,by simpa using h2,h3⟩
   ·rw [if_neg hb] at h
    obtain ⟨k,h1,c,h2,h3⟩:=ih (i+1) x h
    exact ⟨k+1,by rw [h1]; push_cast; omega,c,by simpa using h2,h3⟩
theorem M6:∀ (bs:List (List Row)) (i:Nat),(∃ b∈bs,0< b.length)→(BY i bs).1≠[]:=by
 intro bs
 induction bs with
 | nil=>rintro i ⟨b,hb,_⟩; cases hb
 | cons c bs ih =>
   rintro i ⟨b,hb,hl⟩
   unfold BY
   by_cases hc:c.length > 0
   ·rw [if_pos hc]; simp
   ·rw [if_neg hc]
    rcases List.mem_cons.1 hb with rfl | hb
    ·exact absurd hl hc
    ·exact ih (i+1) ⟨b,hb,hl⟩
theorem L2 {bs:List (List Row)}{n:Nat}(h:∀ b∈bs,Blk b∧b.length≤24) (hl:bs.length≤6) (h1:∃ b∈bs,0< b.length) (h2:∀ k b,bs[k]? = some b→0< b.length→k< n):Bw (C2 bs) n=true:=by
 unfold Bw
 rw [L1 h hl,Bool.true_and]
 cases hx:(C2 bs).ids.getLast? with
 | none=>exact absurd (List.getLast?_eq_none_iff.1 hx) (M6 bs 0 h1)
 | some x =>
   obtain ⟨k,e,b,hb,hb2⟩:=OZ bs 0 x (List.mem_of_getLast? hx)
   have:=h2 k b hb hb2
   simp
   omega
theorem Px {mem:List Smp}(h:∀ m∈mem,1≤m.id∧m.id≤6∧Bi m.row=true) (hm:mem≠[]):∃ b∈DC mem 6,0< b.length:=by
 obtain ⟨m,hl⟩:∃ m,m∈mem:=List.exists_mem_of_ne_nil mem hm
 have hid:=h m hl
 have hr:∀ m∈mem,Bi m.row=true:=fun m hm=>(h m hm).2.2
 refine ⟨rowsOf (Ds mem) m.id,?_,?_⟩
 ·unfold DC
  refine List.mem_map.2 ⟨(m.id - 1).toNat,by simp; omega,?_⟩
  rw [show (((m.id - 1).toNat:Nat):Int)+1=m.id by omega]
 ·have h1:(look m.row.t (rowsOf (Ds mem) m.id)).isSome=true:=by
   have e:look m.row.t (rowsOf (Ds mem) m.id)=HL m.row.t m.id mem none:=(Dl m.row.t m.id mem [] hr Blk.nil).1
   rw [e]
   have key:∀ (ms:List Smp) (x:Option Row),x.isSome=true∨m∈ms→(HL m.row.t m.id ms x).isSome=true:=by
    intro ms
    induction ms with
    | nil=>intro x hx; rcases hx with hx | hx; exact hx; cases hx
    | cons c cs ih =>
      intro x hx
      unfold HL at ih ⊢
      rw [List.foldl_cons]
      by_cases hc:c.id=m.id∧c.row.t=m.row.t
      ·rw [if_pos hc]; exact ih _ (.inl rfl)
      ·rw [if_neg hc]
       rcases hx with hx | hx
       ·exact ih _ (.inl hx)
       ·rcases List.mem_cons.1 hx with rfl | hx
        ·exact absurd ⟨rfl,rfl⟩ hc
        ·exact ih _ (.inr hx)
   exact key mem none (.inr hl)
  obtain ⟨q,hq⟩:=Option.isSome_iff_exists.1 h1
  exact List.length_pos_of_mem (Hz hq).2
theorem Nr {s:Sto}(h:StoK s){id:Int}(hi:(s.idx.names.length:Int)< id):rowsOf (Ds s.mem) id=[]:=by
 have key:∀ (mem:List Smp) (o:List Row),(∀ m∈mem,m.id≠id)→mem.foldl (CV id) o=o:=by
  intro mem
  induction mem with
  | nil=>intro o _; rfl
  | cons m ms ih =>
    intro o h
    rw [List.foldl_cons,Fy (h m AD)]
    exact ih o (fun x hx=>h x (by simp [hx]))
 exact key s.mem [] (fun m hm=>by have:=(h.id m hm).2; omega)
theorem Jb {s:Sto}(h:SD s) (hk:Al s=true) (h1:s.mem≠[]) (h2:s.parts.length< 6):Al (DE s)=true:=by
 have hK:=StoK.of h hk
 have hk2:=hk
 unfold Al at hk2 ⊢
 simp only [AW,decide_eq_true_eq,List.all_eq_true,List.mem_range,EJ] at hk2 ⊢
 obtain ⟨⟨⟨⟨a1,a2⟩,a3⟩,a4⟩,a5⟩:=hk2
 have hn:=h.nm.len
 have h24:∀ i< s.idx.names.length,(rowsOf (Ds s.mem) ((i:Int)+1)).length≤24:=fun i hi=>RU hK (a5 i hi)
 have hpos:∀ k b,(DC s.mem 6)[k]? = some b→0< b.length→k< s.idx.names.length:=fun k b hb hl=>by
  unfold DC at hb
  rw [List.getElem?_map] at hb
  by_cases hk6:k< 6
  ·rw [List.getElem?_range hk6] at hb
   simp only [Option.map_some,Option.some.injEq] at hb
   subst hb
   by_cases hlt:k< s.idx.names.length
   ·exact hlt
   ·rw [Nr hK (id:=(k:Int)+1) AB] at hl
    cases hl
  ·rw [List.getElem?_eq_none (by simp; omega)] at hb
   cases hb
 refine ⟨⟨⟨⟨by simp [DE]; omega,by simp [DE]⟩,fun p hp=>?_⟩,by simp [DE]⟩,fun i hi=>?_⟩
 ·rcases List.mem_append.1 hp with hp | hp
  ·exact a3 p hp
  ·simp only [List.mem_cons,List.not_mem_nil,or_false] at hp
   subst hp
   rw [Gs hK.JW.Hg]
   refine L2 (fun b hb=>?_) (by rw [F1]; omega) (Px (fun m hm=>⟨(hK.JW.Hg m hm).1,(hK.JW.Hg m hm).2,hK.row m hm⟩) h1) hpos
   unfold DC at hb
   obtain ⟨i,hi,rfl⟩:=List.mem_map.1 hb
   refine ⟨(Dl 0 _ s.mem [] hK.row Blk.nil).2,?_⟩
   by_cases hlt:i< s.idx.names.length
   ·exact h24 i hlt
   ·rw [Nr hK (id:=(i:Int)+1) AB]
    simp
 ·have hi2:i< s.idx.names.length:=hi
  rw [M5 hK AB AB]
  exact a5 i hi2
def Bv (s:Sto):Sto × Bool:=if Al s then As (Am s) else (⟨⟨[],[]⟩,[],[]⟩,false)
theorem H0 {s:Sto}(h:Al s=false):Bv s=(⟨⟨[],[]⟩,[],[]⟩,false):=by unfold Bv; rw [if_neg (by simp [h])]
theorem Gt {s:Sto}(h:Al s=true):Bv s=As (Am s):=by unfold Bv; rw [if_pos h]
theorem LI {s:Sto}(h:Al s=true):s.parts.length≤6:=by
 unfold Al at h
 simp only [AW,decide_eq_true_eq] at h
 exact h.1.1.1.1
theorem F3 {s:Sto}(_h:SD s) (hk:Al s=true) (h1:(s.mem.length:Int)=0∨(s.parts.length:Int)=6):Bv s=(Am s,false):=by
 rw [Gt hk]
 unfold As
 have e1:(Am s).mem.length=s.mem.length:=rfl
 have e2:(Am s).parts.length=s.parts.length:=rfl
 rw [if_pos AB]
theorem HM {s:Sto}(_h:SD s) (hk:Al s=true) (h1:(s.mem.length:Int)≠0) (h2:(s.parts.length:Int)≠6):Bv s=(⟨(Am s).idx,(Am s).parts++[BJ s.mem],[]⟩,true):=by
 rw [Gt hk]
 unfold As
 have e1:(Am s).mem.length=s.mem.length:=rfl
 have e2:(Am s).parts.length=s.parts.length:=rfl
 have:=LI hk
 rw [if_neg AB]
 rfl
theorem Ns {mem:List Smp}{k:Nat}(hk:1≤k):DC mem (k+1 - 1)=DC mem (k - 1)++[rowsOf (Ds mem) (k:Int)]:=by
 rw [show k+1 - 1=(k - 1)+1 by omega,OX,show ((k - 1:Nat):Int)+1=(k:Int) by omega]
theorem RV {mem:List Smp}{k:Nat}{a:List Int}(h:a=(BY 0 (DC mem (k - 1))).1) (hk:1≤k) (hl:((rowsOf (Ds mem) (k:Int)).length:Int) > 0):a++[(k:Int)]=(BY 0 (DC mem (k+1 - 1))).1:=by
 rw [Ns hk,C6,if_pos AB,h,F1,show ((0:Nat):Int)+((k - 1:Nat):Int)+1=(k:Int) by omega]
theorem RW {mem:List Smp}{k:Nat}{a:List Int}(h:a=(BY 0 (DC mem (k - 1))).1) (hk:1≤k) (hl:¬ ((rowsOf (Ds mem) (k:Int)).length:Int) > 0):a=(BY 0 (DC mem (k+1 - 1))).1:=by
 rw [Ns hk,C6,if_neg AB,h]
theorem RX {mem:List Smp}{k:Nat}{a:List (List Row)}(h:a=(BY 0 (DC mem (k - 1))).2) (hk:1≤k) (hl:((rowsOf (Ds mem) (k:Int)).length:Int) > 0):a++[rowsOf (Ds mem) (k:Int)]=(BY 0 (DC mem (k+1 - 1))).2:=by
 rw [Ns hk,C6,if_pos AB,h]
theorem RY {mem:List Smp}{k:Nat}{a:List (List Row)}(h:a=(BY 0 (DC mem (k - 1))).2) (hk:1≤k) (hl:¬ ((rowsOf (Ds mem) (k:Int)).length:Int) > 0):a=(BY 0 (DC mem (k+1 - 1))).2:=by
 rw [Ns hk,C6,if_neg AB,h]
theorem Tr {mem:List Smp}{k:Nat}{a:List Int}{b:List (List Row)}(hm:∀ m∈mem,1≤m.id∧m.id≤6) (hk:k=7) (ha:a=(BY 0 (DC mem (k - 1))).1) (hb:b=(BY 0 (DC mem (k - 1))).2):(⟨a,b⟩:Prt)=BJ mem:=by
 subst hk ha hb
 rw [Gs hm]
 rfl
end Go.Proofs.YtggnnidleedpaaaGreat
