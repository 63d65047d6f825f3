/- Sorting by insertion: rules, the order of tags, what a round keeps. No conditions. -/
import Derived.Test.YtckdhcbbgmiccaaGreatDoorLdzMod16
import Derived.Test.YtckdhcbbgmiccaaGreatDoorLdzLen
open Go.Proofs.Tryz
set_option linter.unusedVariables false
set_option linter.unusedSimpArgs false
namespace Go.Proofs.YtckdhcbbgmiccaaGreatDoor
section
variable {P:Program} {S:Nat→Prop} {n m:Nat} {L:Env→World→Prop} {ops:Array Oper} {l:List Nat} {e:Env} {w:World}
theorem GE.HQ {i:Nat}{t':TypeId}{b o:Nat}{cs:List Value}(k:Nat) (vs:List Value) (hc:Has w ⟨b,o,none⟩ cs) (h:loadAt n ops i e=some (t',⟨b,o+k,none⟩)) (hs:GU P t' vs.length=true) (hv:(cs.drop k).take vs.length=vs)
 (H:∀ w1,Ext w w1→GA P S n m L ops (i::l) (Am e (Ae ops i).dst (.agg vs.toArray)) w1):GE P S n m L ops l i e w:=fun w1 hx=>by
 rw [(run_load (P:=P) (w:=w1) h ((hc.ext hx).OJ k vs hs hv)).2]
 exact ⟨Chg.refl S _,H w1 hx⟩
theorem GE.FV {α:Type}[Rep α] {i r t N c q k:Nat}{F:Nat→Prop}{xs:List α}{t':TypeId}{x:α}{cs:List Value}{v:Value}(x':α) (ho:Own w r t F N c xs) (hx:xs[q]? = some x)
 (hh:Has w ⟨r,0+q * Rep.sz α,none⟩ cs) (hr:Rep.rep w (fun b=>F b∧b≠r) x' (BH cs k v.cells.toList)) (h:storeAt n ops i e=some (t',⟨r,0+q * Rep.sz α+k,none⟩,v)) (hl:Nat.beq cs.length (Rep.sz α)=true)
 (hs:(FD P t' v.cells.size&&Nat.ble (k+v.cells.size) cs.length&&v.cells.toList.all Dq)=true)
 (H:∀ w1,Ext w w1→∀ w2,Own w2 r t F N c (xs.set q x')→Chg (Go.Proofs.YtckdhcbbgmiccaaGreatDoor.one r) w1 w2→w2.heap.size=w1.heap.size→Chg S w1 w2∧GA P S n m L ops (i::l) (Am e (Ae ops i).dst undef) w2):GE P S n m L ops l i e w:=fun w1 hx1=>by
 rw [Nat.zero_add] at hh h
 have hr1:Rep.rep w1 (fun b=>F b∧b≠r) x' (BH cs k v.cells.toList):=Rep.frame hr (fun b hb hF=>⟨hF,hx1.block hb⟩)
 obtain ⟨w2,hrun,ho',hx',hsz⟩:=(ho.ext hx1).store (P:=P) (t':=t') (k:=k) hx (hh.ext hx1) (Nat.eq_of_beq_eq_true hl) hs hr1
 rw [HR h hrun]
 obtain ⟨h1,h2⟩:=H w1 hx1 w2 ho' hx' hsz
 exact ⟨h1,h2⟩
end
theorem Own.Rs {α:Type}[Rep α] {w:World}{r t n c:Nat}{F:Nat→Prop}{xs:List α}(h:Own w r t F n c xs):Own w r t (nin F [r]) n c xs :=
 ⟨h.len,h.le,h.cap,h.row,fun i x hi=>by
  obtain ⟨cs,h1,h2⟩:=h.elem i x hi
  exact ⟨cs,Rep.frame h1 (fun b _ hF=>⟨⟨⟨hF.1,by simp; exact hF.2⟩,hF.2⟩,rfl⟩),h2⟩⟩
theorem Own.Pd {α:Type}[Rep α] {w:World}{r t n c:Nat}{F:Nat→Prop}{xs:List α}(h:Own w r t (nin F [r]) n c xs):Own w r t F n c xs:=h.Bx fun _ _ hF=>hF.1
theorem Qs (a b:UInt8) (x y:Str):Bz (a::x) (b::y)=(decide (a< b) || a==b&&Bz x y):=rfl
theorem Kv:∀ (x y z:Str),Bz x y=true→Bz y z=true→Bz x z=true:=by
 intro x
 induction x with
 | nil =>
   intro y z h1 h2
   cases z with
   | nil=>cases y <;> simp [Bz,Op.bytesLess] at h2
   | cons=>rfl
 | cons a x ih =>
   intro y z h1 h2
   cases y with
   | nil=>simp [Bz,Op.bytesLess] at h1
   | cons b y =>
     cases z with
     | nil=>simp [Bz,Op.bytesLess] at h2
     | cons c z =>
       rw [Qs] at h1 h2 ⊢
       simp only [Bool.or_eq_true,decide_eq_true_eq,AW,beq_iff_eq] at h1 h2 ⊢
       rcases h1 with h1 | ⟨h1,h3⟩
       ·rcases h2 with h2 | ⟨h2,h4⟩
        ·left
         have g1:=UInt8.lt_iff_toNat_lt.1 h1
         have g2:=UInt8.lt_iff_toNat_lt.1 h2
         exact UInt8.lt_iff_toNat_lt.2 AB
        ·left; rw [← h2]; exact h1
       ·rcases h2 with h2 | ⟨h2,h4⟩
        ·left; rw [h1]; exact h2
        ·right; exact ⟨h1.trans h2,ih y z h3 h4⟩
theorem KO {x y:Str}(h1:Bz x y=false) (h2:Bz y x=false):x=y:=by
 have:=JO x y
 unfold FW at this
 unfold Bz at h1 h2 this
 rw [h1,h2] at this
 simpa using this
theorem Hc {a b c:Tag}(h1:E1 a b=true) (h2:E1 b c=true):E1 a c=true:=by
 unfold E1 at *
 simp only [Bool.or_eq_true,AW,beq_iff_eq] at *
 rcases h1 with h1 | ⟨h1,h3⟩
 ·rcases h2 with h2 | ⟨h2,h4⟩
  ·exact .inl (Kv _ _ _ h1 h2)
  ·exact .inl (h2▸h1)
 ·rcases h2 with h2 | ⟨h2,h4⟩
  ·exact .inl (h1▸h2)
  ·exact .inr ⟨h1.trans h2,Kv _ _ _ h3 h4⟩
theorem Nh (a:Tag):E1 a a=false:=by unfold E1; simp [KF]
theorem Ni {a b:Tag}(h1:E1 a b=false) (h2:E1 b a=false):a=b:=by
 unfold E1 at h1 h2
 simp only [Bool.or_eq_false_iff,Bool.and_eq_false_iff] at h1 h2
 have hk:=KO h1.1 h2.1
 have hv:a.val=b.val:=by
  rcases h1.2 with h | h
  ·rw [hk] at h; simp at h
  ·rcases h2.2 with h' | h'
   ·rw [hk] at h'; simp at h'
   ·exact KO h h'
 cases a; cases b
 simp only at hk hv
 rw [hk,hv]
theorem Oa (a b:Pst):NF a b< 0↔E1 a.tag b.tag=true:=by
 unfold NF KK E1
 cases h1:Bz a.tag.key b.tag.key with
 | true=>simp [orF]
 | false =>
   cases h2:Bz b.tag.key a.tag.key with
   | true =>
     have:¬ a.tag.key=b.tag.key:=fun e=>by rw [e,KF] at h2; cases h2
     simp [orF,this]
   | false =>
     have e:=KO h1 h2
     cases h3:Bz a.tag.val b.tag.val with
     | true=>simp [orF,e]
     | false =>
       cases h4:Bz b.tag.val a.tag.val <;> simp [orF]
def Le (a b:Pst):Prop:=¬ NF b a< 0
theorem Le.of_lt {a b:Pst}(h:NF a b< 0):Le a b:=fun h2=>by
 rw [Oa] at h h2
 have:=Hc h h2
 rw [Nh] at this
 cases this
theorem Le.trans {a b c:Pst}(h1:Le a b) (h2:Le b c):Le a c:=by
 unfold Le at *
 rw [Oa] at *
 intro h
 cases h3:E1 b.tag c.tag with
 | true=>exact h1 (Hc h3 h)
 | false =>
   have e:=Ni h3 (by simpa using h2)
   rw [← e] at h
   exact h1 h
def Bf (xs:List Pst) (i j:Nat):Prop :=
 j≤i∧i< xs.length∧(xs.take j++(xs.take (i+1)).drop (j+1)).Pairwise Le∧∀ x,xs[j]? = some x→∀ y∈(xs.take (i+1)).drop (j+1),Le x y
theorem Bf.start {xs:List Pst}{i:Nat}(h:(xs.take i).Pairwise Le) (hi:i< xs.length):Bf xs i i:=by
 have:(xs.take (i+1)).drop (i+1)=[]:=List.drop_of_length_le (by simp; omega)
 refine ⟨Nat.le_refl _,hi,?_,?_⟩
 ·rw [this,List.append_nil]; exact h
 ·rw [this]; intro _ _ y hy; cases hy
theorem UJ {α:Type}{xs:List α}{j:Nat}{x y:α}(hx:xs[j]? = some x) (hy:xs[j - 1]? = some y) (hj:0< j):∃ A D,xs=A++y::x::D∧A.length=j - 1:=by
 refine ⟨xs.take (j - 1),xs.drop (j+1),?_,?_⟩
 ·have h1:=drop_at hy
  rw [show j - 1+1=j by omega,drop_at hx] at h1
  rw [← h1,List.take_append_drop]
 ·obtain ⟨h1,_⟩:=List.getElem?_eq_some_iff.1 hy
  rw [List.length_take]; omega
theorem swap_eq {α:Type}(A D:List α) (x y:α):((A++y::x::D).set (A.length+1) y).set A.length x=A++x::y::D:=by
 simp
theorem swap_perm {xs:List Pst}{j:Nat}{x y:Pst}(hx:xs[j]? = some x) (hy:xs[j - 1]? = some y) (hj:0< j):((xs.set j y).set (j - 1) x).Perm xs:=by
 obtain ⟨A,D,rfl,hA⟩:=UJ hx hy hj
 rw [show j=A.length+1 by omega,Nat.add_sub_cancel,swap_eq]
 exact List.Perm.append_left A (List.Perm.swap y x D)
theorem Bf.step {xs:List Pst}{i j:Nat}{x y:Pst}(h:Bf xs i j) (hj:0< j) (hx:xs[j]? = some x) (hy:xs[j - 1]? = some y) (hc:NF x y< 0):Bf ((xs.set j y).set (j - 1) x) i (j - 1):=by
 obtain ⟨h1,h2,h3,h4⟩:=h
 have h5:=h4 x hx
 obtain ⟨A,D,rfl,hA⟩:=UJ hx hy hj
 have hj2:j=A.length+1:=by omega
 subst hj2
 have e1:(A++y::x::D).take (A.length+1)=A++[y]:=by rw [List.take_length_add_append]; rfl
 have e2:∀ a b:Pst,((A++a::b::D).take (i+1)).drop (A.length+1+1)=D.take (i - A.length - 1):=by
  intro a b
  rw [List.drop_take,show (A++a::b::D).drop (A.length+1+1)=D from (List.drop_length_add_append (l₁:=A) (l₂:=a::b::D) (i:=2))]
  congr 1
  omega
 have e3:((A++x::y::D).take (i+1)).drop (A.length+1)=y::D.take (i - A.length - 1):=by
  rw [List.drop_take,show (A++x::y::D).drop (A.length+1)=y::D from (List.drop_length_add_append (l₁:=A) (l₂:=x::y::D) (i:=1)),show i+1 - (A.length+1)=(i - A.length - 1)+1 by omega]
  rfl
 rw [e1,e2] at h3
 rw [e2] at h5
 rw [Nat.add_sub_cancel,swap_eq]
 refine ⟨by omega,by simpa using h2,?_,?_⟩
 ·rw [e3,show (A++x::y::D).take A.length=A by simp]
  simpa using h3
 ·intro x' hx' z hz
  rw [e3] at hz
  have:x'=x:=by
   have hg:(A++x::y::D)[A.length]? = some x:=by simp
   rw [hg] at hx'
   cases hx'
   rfl
  subst this
  rcases List.mem_cons.1 hz with rfl | hz
  ·exact Le.of_lt hc
  ·exact h5 z hz
theorem Bf.exit {xs:List Pst}{i j:Nat}(h:Bf xs i j) (hj:j=0∨∃ x y,xs[j]? = some x∧xs[j - 1]? = some y∧¬ NF x y< 0):(xs.take (i+1)).Pairwise Le:=by
 obtain ⟨h1,h2,h3,h4⟩:=h
 have hjl:j< xs.length:=by omega
 have hx:xs[j]? = some xs[j]:=AU hjl
 have h5:=h4 _ hx
 have e:xs.take (i+1)=xs.take j++xs[j]::(xs.take (i+1)).drop (j+1):=by
  have h6:(xs.take (i+1)).take j=xs.take j:=by rw [List.take_take,Nat.min_eq_left AB]
  have h7:(xs.take (i+1))[j]? = some xs[j]:=by rw [List.getElem?_take,if_pos AB]; exact hx
  rw [← h6,← drop_at h7,List.take_append_drop]
 rw [e]
 rw [List.pairwise_append] at h3 ⊢
 obtain ⟨g1,g2,g3⟩:=h3
 have key:∀ a∈xs.take j,Le a xs[j]:=by
  intro a ha
  rcases hj with rfl | ⟨x,y,hx',hy,hc⟩
  ·simp at ha
  ·have:x=xs[j]:=by rw [hx] at hx'; cases hx'; rfl
   subst this
   by_cases hj0:j=0
   ·subst hj0; simp at ha
   ·have hyl:xs.take j=xs.take (j - 1)++[y]:=by
     obtain ⟨k,rfl⟩:∃ k,j=k+1:=⟨j - 1,by omega⟩
     rw [Nat.add_sub_cancel] at hy
     rw [List.take_add_one,hy]
     simp
    have hyc:Le y xs[j]:=hc
    rw [hyl] at ha g1
    rcases List.mem_append.1 ha with ha | ha
    ·exact Le.trans ((List.pairwise_append.1 g1).2.2 a ha y AD) hyc
    ·simp at ha; subst ha; exact hyc
 refine ⟨g1,List.pairwise_cons.2 ⟨h5,g2⟩,fun a ha b hb=>?_⟩
 rcases List.mem_cons.1 hb with rfl | hb
 ·exact key a ha
 ·exact g3 a ha b hb
theorem Bf.Xx {xs:List Pst}{i:Nat}{j:Int}{x y:Pst}(h:Bf xs i j.toNat) (hj:j > 0) (hx:xs[j.toNat]? = some x) (hy:xs[(j - 1).toNat]? = some y) (hc:NF x y< 0):Bf ((xs.set j.toNat y).set (j - 1).toNat x) i (j - 1).toNat:=by
 rw [show (j - 1).toNat=j.toNat - 1 by omega] at *
 exact h.step AB hx hy hc
theorem MM {xs xs0:List Pst}{j:Int}{x y:Pst}(hx:xs[j.toNat]? = some x) (hy:xs[(j - 1).toNat]? = some y) (hj:j > 0) (h:xs.Perm xs0):((xs.set j.toNat y).set (j - 1).toNat x).Perm xs0:=by
 rw [show (j - 1).toNat=j.toNat - 1 by omega] at *
 exact (swap_perm hx hy AB).trans h
theorem Bf.Zq {xs:List Pst}{i:Nat}{j:Int}(h:Bf xs i j.toNat) (hj:¬ j > 0):(xs.take (i+1)).Pairwise Le:=h.exit (.inl AB)
theorem Bf.Zr {xs:List Pst}{i:Nat}{j:Int}{x y:Pst}(h:Bf xs i j.toNat) (hj:j > 0) (hx:xs[j.toNat]? = some x) (hy:xs[(j - 1).toNat]? = some y) (hc:¬ NF x y< 0):(xs.take (i+1)).Pairwise Le:=by
 rw [show (j - 1).toNat=j.toNat - 1 by omega] at hy
 exact h.exit (.inr ⟨x,y,hx,hy,hc⟩)
end Go.Proofs.YtckdhcbbgmiccaaGreatDoor
namespace Go.Proofs.YtckdhcbbgmiccaaGreatDoor
set_option maxRecDepth 100000
set_option maxHeartbeats 4000000
variable {w:World} {F:Nat→Prop}
theorem LF {r n c:Nat}{xs0:List Pst}(ho:Own w r 145 F n c xs0):Calls Tryz.prog 209 [.slice (some ⟨r,0,none⟩) n c,.int .i64 0,.int .i64 (n:Int),.func (.func 110) #[] #[]].toArray w (Al fun rv w'=>rv=.tuple #[]∧∃ zs,zs.Perm xs0∧zs.Pairwise Le∧Own w' r 145 F n c zs∧Chg (one r) w w'):=by
 refine goT func209 ?_
 replace ho:=ho.Rs; have hnl:=ho.len; have hnm:=ho.max
 refine .s<|.g<|.r 1<|.it (1)<|.r 1<|.d<|.b 0<|T.loop (X:=Nat × (List Pst)) (1,xs0) (fun (i,xs)=>[(0,vS r n c),(1,vI 0),(2,vI (n:Int)),(3,.func (.func 110) #[] #[]),(8,vI (i:Int))]) (fun (i,xs) aT=>Chg (ins [r]) w aT∧Own aT r 145 (nin F [r]) n c xs∧(1≤i)∧(xs.Perm xs0)∧((xs.take i).Pairwise Le)) (fun (i,xs)=>n - i) AA ⟨AA,AA,AA,AA,AA,trivial⟩ ⟨Chg.refl _ _,ho,AB,(by exact List.Perm.refl _),(by cases xs0 <;> simp)⟩ ?_
 rintro ⟨i,xs⟩ dD aT ⟨E,aQ,cR,cS,cT⟩ aB
 have cU:Cov (ins [r]) w r:=⟨.inl AI⟩
 have aa:Chg (one r) w aT:=Chg.NN (Chg.refl (one r) w) E (all_cons (Cov.mk1 w r) all_nil)
 have cV:=aQ.len
 refine .s<|.s<|.g<|.r 2<|.bp ((i:Int)< (n:Int)) (fun cg=>?_) (fun cg=>.d<|.cf<|.x 0 rfl<|T.GR func209 results209 ⟨rfl,_,(by assumption:xs.Perm xs0),(by have q1:(xs.take i).Pairwise Le:=‹_›; rw [List.take_of_length_le AB] at q1; exact q1),aQ.Pd,aa⟩)
 refine .d<|.ct<|.sk<|.s<|.b 1<|.s<|.g<|.r 2<|.d<|.b 2<|T.loop (X:=Int × (List Pst)) ((i:Int),xs) (fun (j,af)=>[(0,vS r n c),(1,vI 0),(2,vI (n:Int)),(3,.func (.func 110) #[] #[]),(8,vI (i:Int)),(9,vI j)]) (fun (j,af) bM=>Chg (ins [r]) aT bM∧Own bM r 145 (nin F [r]) n c af∧(0≤j)∧(af.Perm xs0)∧(Bf af i j.toNat)) (fun (j,af)=>j.toNat) AA ⟨AA,AA,AA,AA,AA,AA,trivial⟩ ⟨Chg.refl _ _,aQ,AB,‹_›,(by exact Bf.start ‹_› AB)⟩ ?_
 rintro ⟨j,af⟩ dE bM ⟨ac,ab,cX,cY,cZ⟩ aC
 have c7:Cov (ins [r]) aT r:=⟨.inl AI⟩
 replace ⟨aa,E⟩:=(si ac).g2 aa E
 have c8:=ab.len
 refine .s<|.s<|.gd nil 14 fun ci bw=>?_
 replace ⟨ab,aa,E,ac⟩:=(se [r] bw).g4 ab aa E ac
 refine .r [0,1]<|GA.G5 (i:=2) (j > 0) AA (fun cj=>?_) (fun cj=>?_)
 ·refine .r [3,4,5,6] ?_
  have ck:j.toNat< n:=(by have q1:Bf af i j.toNat:=‹_›; have q2:=q1.1; omega)
  refine GA.idx (i:=7) (b:=r) (o:=0) (j.toNat) (len:=n) (z:=j) (sz:=3) AA (by have q1:Bf af i j.toNat:=‹_›; omega) ck rfl ?_
  obtain ⟨ae,ak⟩:∃ y,af[j.toNat]? = some y:=⟨_,AU (by have q1:Bf af i j.toNat:=‹_›; omega)⟩
  obtain ⟨_,⟨cH,dF,cI,rfl,aF⟩,aU⟩:=ab.elem (j.toNat) ae ak
  replace aF:=aF.Bx (fun _ _ h=>h.1)
  have cm:=aF.len
  subst cm
  replace aU:Has ci ⟨r,0+(j.toNat) * Rep.sz Pst,none⟩ [vT ae.tag.key,vT ae.tag.val,.slice cH ae.ids.length cI]:=by rw [Nat.zero_add]; exact aU
  refine .lg 8 0 aU id<|.r [9,10]<|GA.int (i:=11) (j - 1) AA AB ?_
  have co:(j - 1).toNat< n:=(by have q1:Bf af i j.toNat:=‹_›; omega)
  refine GA.idx (i:=12) (b:=r) (o:=0) ((j - 1).toNat) (len:=n) (z:=j - 1) (sz:=3) AA (by have q1:Bf af i j.toNat:=‹_›; omega) co rfl ?_
  obtain ⟨ag,aD⟩:∃ y,af[(j - 1).toNat]? = some y:=⟨_,AU (by have q1:Bf af i j.toNat:=‹_›; omega)⟩
  obtain ⟨_,⟨cJ,dG,cK,rfl,aG⟩,aV⟩:=ab.elem ((j - 1).toNat) ag aD
  replace aG:=aG.Bx (fun _ _ h=>h.1)
  have cp:=aG.len
  subst cp
  replace aV:Has ci ⟨r,0+((j - 1).toNat) * Rep.sz Pst,none⟩ [vT ag.tag.key,vT ag.tag.val,.slice cJ ag.ids.length cK]:=by rw [Nat.zero_add]; exact aV
  refine .lg 13 0 aV id<|.d fun cL bz=>?_
  replace ⟨ab,aF,aG,aa,E,ac⟩:=(se [r] bz).g6 ab aF aG aa E ac
  refine .cl (KM ae ag aF.ta aG.ta (w:=cL) (F:=all)) ?_
  rintro dH bN ⟨rfl,bA⟩
  replace ⟨ab,aa,E,ac⟩:=(se [r] bA).g4 ab aa E ac
  refine .bp (NF ae ag< 0) (fun cq=>?_) (fun cq=>.r 1<|.d<|.cf<|.x 2 rfl<|.ib 1<|.g<|.r 1<|.it ((i:Int)+1)<|.r 1<|.d<|aB (i+1,af) _ _ ⟨AA,AA,AA,AA,AA,trivial⟩ ⟨E,ab,AB,‹_›,(by exact Bf.Zr ‹_› ‹_› ‹_› ‹_› ‹_›)⟩ (by (simp only []; omega)))
  refine .r 1<|.d<|.ct<|.sk<|.s<|.b 3 ?_
  have bB:Cov (mtb [r] bN.heap.size) bN r:=⟨.inl (.inl AI)⟩
  refine .gd (mtb [r] bN.heap.size) 16 fun cr bC=>?_
  replace ⟨ab,aa,E,ac⟩:=(se [r] bC).g4 ab aa E ac
  refine .r [0,1,2,3]<|GA.int (i:=4) (j - 1) AA AB<|.r [5,6]<|GA.int (i:=7) (j - 1) AA AB ?_
  have cu:(j - 1).toNat< n:=(by have q1:Bf af i j.toNat:=‹_›; omega)
  refine GA.idx (i:=8) (b:=r) (o:=0) ((j - 1).toNat) (len:=n) (z:=j - 1) (sz:=3) AA (by have q1:Bf af i j.toNat:=‹_›; omega) cu rfl<|.r [10,11] ?_
  have cw:j.toNat< n:=(by have q1:Bf af i j.toNat:=‹_›; omega)
  refine GA.idx (i:=12) (b:=r) (o:=0) (j.toNat) (len:=n) (z:=j) (sz:=3) AA (by have q1:Bf af i j.toNat:=‹_›; omega) cw rfl<|.tw 9 13 ?_ ?_
  ·obtain ⟨_,⟨bO,dI,bP,rfl,aE⟩,aW⟩:=ab.elem ((j - 1).toNat) ag aD
   replace aE:=aE.Bx (fun _ _ h=>h.1)
   have cx:=aE.len
   subst cx
   replace aW:Has cr ⟨r,0+((j - 1).toNat) * Rep.sz Pst,none⟩ [vT ag.tag.key,vT ag.tag.val,.slice bO ag.ids.length bP]:=by rw [Nat.zero_add]; exact aW
   refine GE.HQ (t':=145) 0 [vT ag.tag.key,vT ag.tag.val,.slice bO ag.ids.length bP] aW AA AA AA fun cM bD=>?_
   replace ⟨ab,aE,aa,E,ac⟩:=(se [r] bD).g5 ab aE aa E ac
   refine .go 13 ?_
   obtain ⟨_,⟨aX,dj,aY,rfl,aj⟩,aH⟩:=ab.elem (j.toNat) ae ak
   replace aj:=aj.Bx (fun _ _ h=>h.1)
   have bQ:=aj.len
   subst bQ
   replace aH:Has cM ⟨r,0+(j.toNat) * Rep.sz Pst,none⟩ [vT ae.tag.key,vT ae.tag.val,.slice aX ae.ids.length aY]:=by rw [Nat.zero_add]; exact aH
   refine GE.HQ (t':=145) 0 [vT ae.tag.key,vT ae.tag.val,.slice aX ae.ids.length aY] aH AA AA AA fun cy aZ=>?_
   replace ⟨ab,aE,aj,aa,E,ac⟩:=(se [r] aZ).g6 ab aE aj aa E ac
   have bR:j.toNat< n:=(by have q1:Bf af i j.toNat:=‹_›; omega)
   refine GA.idx (i:=14) (b:=r) (o:=0) (j.toNat) (len:=n) (z:=j) (sz:=3) AA (by have q1:Bf af i j.toNat:=‹_›; omega) bR rfl<|.go 15 ?_
   obtain ⟨_,⟨bE,dm,bF,rfl,ba⟩,aI⟩:=ab.elem (j.toNat) ae ak
   replace ba:=ba.Bx (fun _ _ h=>h.1)
   have bS:=ba.len
   subst bS
   replace aI:Has cy ⟨r,0+(j.toNat) * Rep.sz Pst,none⟩ [vT ae.tag.key,vT ae.tag.val,.slice bE ae.ids.length bF]:=by rw [Nat.zero_add]; exact aI
   refine GE.FV (t':=145) (q:=(j.toNat)) (k:=0) (v:=.agg #[vT ag.tag.key,vT ag.tag.val,.slice bO ag.ids.length bP]) (cs:=[vT ae.tag.key,vT ae.tag.val,.slice bE ae.ids.length bF]) ag ab ak aI ⟨_,_,_,rfl,aE.oi⟩ AA AA AA fun dp bd=>?_
   replace ⟨ab,aj,aa,E,ac⟩:=(se [r] bd).g5 ab aj aa E ac
   intro dq ax aJ bT
   have hkeep_:=Chg.toS aJ (Cov.toS bB)
   replace ⟨aj,aa,E,ac⟩:=(so [r] aJ).g4 aj aa E ac
   refine ⟨hkeep_,?_⟩
   refine .d fun cz bg=>?_
   replace ⟨ax,aj,aa,E,ac⟩:=(se [r] bg).g5 ax aj aa E ac
   have bU:(j - 1).toNat< n:=(by have q1:Bf af i j.toNat:=‹_›; omega)
   refine RG.idx (b:=r) (o:=0) ((j - 1).toNat) (len:=n) (i:=j - 1) (sz:=3) AA (by have q1:Bf af i j.toNat:=‹_›; omega) bU rfl ?_
   obtain ⟨al,ay⟩:∃ y,(af.set (j.toNat) ag)[(j - 1).toNat]? = some y:=⟨_,AU (by have q1:Bf af i j.toNat:=‹_›; (rw [List.length_set]; omega))⟩
   obtain ⟨_,⟨bG,dt,bH,rfl,aR⟩,aK⟩:=ax.elem ((j - 1).toNat) al ay
   replace aR:=aR.Bx (fun _ _ h=>h.1)
   have bV:=aR.len
   subst bV
   replace aK:Has cz ⟨r,0+((j - 1).toNat) * Rep.sz Pst,none⟩ [vT al.tag.key,vT al.tag.val,.slice bG al.ids.length bH]:=by rw [Nat.zero_add]; exact aK
   refine RG.FV (t':=145) (i:=((j - 1).toNat)) (k:=0) (v:=.agg #[vT ae.tag.key,vT ae.tag.val,.slice aX ae.ids.length aY]) (cs:=[vT al.tag.key,vT al.tag.val,.slice bG al.ids.length bH]) ae ax ay aK AA AA AA ⟨_,_,_,rfl,aj.oi⟩ fun du bW bh bX=>?_
   replace ⟨aa,E,ac⟩:=(s1 bh).g3 aa E ac
   exact .d<|.ib 3<|.g<|.r 1<|.it (j - 1)<|.r 1<|.d<|aC (j - 1,((af.set (j.toNat) ag).set ((j - 1).toNat) ae)) _ _ ⟨AA,AA,AA,AA,AA,AA,trivial⟩ ⟨ac,bW,AB,(by exact MM ‹_› ‹_› ‹_› ‹_›),(by exact Bf.Xx ‹_› ‹_› ‹_› ‹_› ‹_›)⟩ (by (simp only []; omega))
  obtain ⟨_,⟨bi,dv,bj,rfl,ai⟩,aL⟩:=ab.elem (j.toNat) ae ak
  replace ai:=ai.Bx (fun _ _ h=>h.1)
  have bY:=ai.len
  subst bY
  replace aL:Has cr ⟨r,0+(j.toNat) * Rep.sz Pst,none⟩ [vT ae.tag.key,vT ae.tag.val,.slice bi ae.ids.length bj]:=by rw [Nat.zero_add]; exact aL
  refine GE.HQ (t':=145) 0 [vT ae.tag.key,vT ae.tag.val,.slice bi ae.ids.length bj] aL AA AA AA fun cB bk=>?_
  replace ⟨ab,ai,aa,E,ac⟩:=(se [r] bk).g5 ab ai aa E ac
  refine .go 9 ?_
  obtain ⟨_,⟨bm,dw,bn,rfl,ao⟩,aM⟩:=ab.elem ((j - 1).toNat) ag aD
  replace ao:=ao.Bx (fun _ _ h=>h.1)
  have bZ:=ao.len
  subst bZ
  replace aM:Has cB ⟨r,0+((j - 1).toNat) * Rep.sz Pst,none⟩ [vT ag.tag.key,vT ag.tag.val,.slice bm ag.ids.length bn]:=by rw [Nat.zero_add]; exact aM
  refine GE.HQ (t':=145) 0 [vT ag.tag.key,vT ag.tag.val,.slice bm ag.ids.length bn] aM AA AA AA fun cC bo=>?_
  replace ⟨ab,ai,ao,aa,E,ac⟩:=(se [r] bo).g6 ab ai ao aa E ac
  have b0:j.toNat< n:=(by have q1:Bf af i j.toNat:=‹_›; omega)
  refine GA.idx (i:=14) (b:=r) (o:=0) (j.toNat) (len:=n) (z:=j) (sz:=3) AA (by have q1:Bf af i j.toNat:=‹_›; omega) b0 rfl<|.go 15 ?_
  obtain ⟨_,⟨bI,dx,bJ,rfl,bq⟩,aN⟩:=ab.elem (j.toNat) ae ak
  replace bq:=bq.Bx (fun _ _ h=>h.1)
  have b6:=bq.len
  subst b6
  replace aN:Has cC ⟨r,0+(j.toNat) * Rep.sz Pst,none⟩ [vT ae.tag.key,vT ae.tag.val,.slice bI ae.ids.length bJ]:=by rw [Nat.zero_add]; exact aN
  refine GE.FV (t':=145) (q:=(j.toNat)) (k:=0) (v:=.agg #[vT ag.tag.key,vT ag.tag.val,.slice bm ag.ids.length bn]) (cs:=[vT ae.tag.key,vT ae.tag.val,.slice bI ae.ids.length bJ]) ag ab ak aN ⟨_,_,_,rfl,ao.oi⟩ AA AA AA fun dy br=>?_
  replace ⟨ab,ai,aa,E,ac⟩:=(se [r] br).g5 ab ai aa E ac
  intro dz az aO b7
  have hkeep_:=Chg.toS aO (Cov.toS bB)
  replace ⟨ai,aa,E,ac⟩:=(so [r] aO).g4 ai aa E ac
  refine ⟨hkeep_,?_⟩
  refine .d fun cD bt=>?_
  replace ⟨az,ai,aa,E,ac⟩:=(se [r] bt).g5 az ai aa E ac
  have b8:(j - 1).toNat< n:=(by have q1:Bf af i j.toNat:=‹_›; omega)
  refine RG.idx (b:=r) (o:=0) ((j - 1).toNat) (len:=n) (i:=j - 1) (sz:=3) AA (by have q1:Bf af i j.toNat:=‹_›; omega) b8 rfl ?_
  obtain ⟨am,aA⟩:∃ y,(af.set (j.toNat) ag)[(j - 1).toNat]? = some y:=⟨_,AU (by have q1:Bf af i j.toNat:=‹_›; (rw [List.length_set]; omega))⟩
  obtain ⟨_,⟨bK,dA,bL,rfl,aS⟩,aP⟩:=az.elem ((j - 1).toNat) am aA
  replace aS:=aS.Bx (fun _ _ h=>h.1)
  have b9:=aS.len
  subst b9
  replace aP:Has cD ⟨r,0+((j - 1).toNat) * Rep.sz Pst,none⟩ [vT am.tag.key,vT am.tag.val,.slice bK am.ids.length bL]:=by rw [Nat.zero_add]; exact aP
  refine RG.FV (t':=145) (i:=((j - 1).toNat)) (k:=0) (v:=.agg #[vT ae.tag.key,vT ae.tag.val,.slice bi ae.ids.length bj]) (cs:=[vT am.tag.key,vT am.tag.val,.slice bK am.ids.length bL]) ae az aA aP AA AA AA ⟨_,_,_,rfl,ai.oi⟩ fun dB cd bu ce=>?_
  replace ⟨aa,E,ac⟩:=(s1 bu).g3 aa E ac
  exact .d<|.ib 3<|.g<|.r 1<|.it (j - 1)<|.r 1<|.d<|aC (j - 1,((af.set (j.toNat) ag).set ((j - 1).toNat) ae)) _ _ ⟨AA,AA,AA,AA,AA,AA,trivial⟩ ⟨ac,cd,AB,(by exact MM ‹_› ‹_› ‹_› ‹_›),(by exact Bf.Xx ‹_› ‹_› ‹_› ‹_› ‹_›)⟩ (by (simp only []; omega))
 refine .r [3]<|GA.skip AA fun dC bv=>?_
 replace ⟨ab,aa,E⟩:=(se [r] bv).g3 ab aa E
 exact .r 3<|.d<|.cf<|.x 2 rfl<|.ib 1<|.g<|.r 1<|.it ((i:Int)+1)<|.r 1<|.d<|aB (i+1,af) _ _ ⟨AA,AA,AA,AA,AA,trivial⟩ ⟨E,ab,AB,‹_›,(by exact Bf.Zq ‹_› ‹_›)⟩ (by (simp only []; omega))
theorem S3 {r n c:Nat}{xs0:List Pst}{z:Int}(ho:Own w r 145 F n c xs0) (hn:n≤12):Calls Tryz.prog 165 [.slice (some ⟨r,0,none⟩) n c,.int .i64 0,.int .i64 (n:Int),.int .i64 z,.func (.func 110) #[] #[]].toArray w (Al fun rv w'=>rv=.tuple #[]∧∃ zs,zs.Perm xs0∧zs.Pairwise Le∧Own w' r 145 F n c zs∧Chg (one r) w w'):=by
 refine goT func165 ?_
 replace ho:=ho.Rs; have hnl:=ho.len
 refine .s<|.g<|.r 1<|.d<|.s<|.g<|.r 1<|.d<|.b 0<|T.loop (X:=Unit) () (fun _=>[(0,vS r n c),(1,vI 0),(2,vI (n:Int)),(3,vI z),(4,.func (.func 110) #[] #[]),(10,.bool true),(11,.bool true)]) (fun _ w_=>w_=w) (fun _=>0) AA ⟨AA,AA,AA,AA,AA,AA,AA,trivial⟩ rfl ?_
 rintro u_ e_ ai hw_ hl_; clear hl_; rw [hw_]; clear hw_
 refine .b 1<|.s<|.g<|.r 2<|.it ((n:Int) - 0)<|.r 1<|.d<|.s<|.s<|.g<|.r 1<|.bp ((n:Int) - 0≤12) (fun aa=>?_) (fun aa=>absurd (show False by omega) id)
 refine .d<|.ct<|.s<|.g<|.r 4<|.cl (LF ho) ?_
 rintro aj ag ⟨rfl,ah,ab,ac,ae,E⟩
 have af:Chg (one r) w ag:=Chg.G9 (Chg.refl (one r) w) E (Cov.mk1 w r)
 exact .d<|T.Ls AA func165 results165 ⟨rfl,_,ab,ac,ae.Pd,af⟩
theorem Qt {w:World}{n:Nat}(h:n≤1000):Calls Tryz.prog 166 [.int .u64 (n:Int)].toArray w (Al fun rv w'=>∃ z:Int,rv=.int .i64 z∧Ext w w'):=by
 refine (UI (n:Int) w AB AB).mono ?_
 rintro e w' ⟨rfl,rfl⟩
 exact ⟨_,rfl,_,rfl,Ext.refl _⟩
theorem KP {r n c:Nat}{xs0:List Pst}(ho:Own w r 145 F n c xs0) (hn:n≤12):Calls Tryz.prog 109 [.slice (some ⟨r,0,none⟩) n c,.func (.func 110) #[] #[]].toArray w (Al fun rv w'=>rv=.tuple #[]∧∃ zs,zs.Perm xs0∧zs.Pairwise Le∧Own w' r 145 F n c zs∧Chg (one r) w w'):=by
 refine goT func109 ?_
 replace ho:=ho.Rs; have hnl:=ho.len
 refine .s<|.g<|.r 3<|.d<|.g<|.r 3<|RG.eqv (v:=.int .u64 (n:Int)) (v':=.int .u64 (IntKind.u64.wrap (n:Int))) AA (by rw [IntWalk.u64_in _ AB])<|.cl (Qt (n:=n) AB) ?_
 rintro aj ag ⟨ah,rfl,E⟩
 replace ho:=(se [r] E).g1 ho
 have aa:Chg (one r) w ag:=Chg.I9 (Chg.refl (one r) w) E
 refine .r 1<|.cl (S3 ho AB (z:=ah)) ?_
 rintro ak al ⟨rfl,ai,ac,ae,af,ab⟩
 replace aa:=(s1 ab).g1 aa
 exact .d<|T.GR func109 results109 ⟨rfl,_,ac,ae,af.Pd,aa⟩
end Go.Proofs.YtckdhcbbgmiccaaGreatDoor
namespace Go.Proofs.YtckdhcbbgmiccaaGreatDoor
structure RepP (xs:List Pst) (L:Tag→List Int):Prop where
 nd:(xs.map Pst.tag).Nodup
 el:∀ x∈xs,x.ids=L x.tag∧x.ids≠[]
 all:∀ t,L t≠[]→∃ x∈xs,x.tag=t
theorem RepP.add {xs:List Pst}{L:Tag→List Int}(h:RepP xs L) (k:Int) (t:Tag):RepP (Il k xs t) (fun u=>L u++(if u=t then [k] else [])):=by
 rcases Ng t xs 0 with ⟨h1,h2⟩ | ⟨h1,h2,x,h3,h4⟩
 ·have hn:Cf t 0 xs< 0:=by omega
  have hL:L t=[]:=by
   by_cases he:L t=[]
   ·exact he
   ·obtain ⟨x,hx,hxt⟩:=h.all t he
    exact absurd hxt (h2 x hx)
  rw [Pa hn]
  refine ⟨?_,fun x hx=>?_,fun u hu=>?_⟩
  ·rw [List.map_append]
   refine List.nodup_append.2 ⟨h.nd,by simp,fun a ha b hb=>?_⟩
   simp at hb
   subst hb
   obtain ⟨x,hx,rfl⟩:=List.mem_map.1 ha
   exact h2 x hx
  ·rcases List.mem_append.1 hx with hx | hx
   ·have:=h.el x hx
    have hne:=h2 x hx
    rw [if_neg hne,List.append_nil]
    exact this
   ·simp at hx
    subst hx
    simp [hL]
  ·by_cases hut:u=t
   ·exact ⟨⟨t,[k]⟩,by simp,hut.symm⟩
   ·rw [if_neg hut,List.append_nil] at hu
    obtain ⟨x,hx,hxu⟩:=h.all u hu
    exact ⟨x,by simp [hx],hxu⟩
 ·have hn:¬ Cf t 0 xs< 0:=by omega
  rw [Nat.sub_zero] at h3
  rw [Pb hn h3]
  generalize (Cf t 0 xs).toNat=i at h3
  obtain ⟨hil,hie⟩:=List.getElem?_eq_some_iff.1 h3
  have hmap:(xs.set i ⟨x.tag,x.ids++[k]⟩).map Pst.tag=xs.map Pst.tag:=by
   rw [List.map_set]
   have h5:(xs.map Pst.tag)[i]'(by simpa using hil)=x.tag:=by simp [hie]
   have h6:=List.set_getElem_self (show i< (xs.map Pst.tag).length by simpa using hil)
   rw [h5] at h6
   exact h6
  refine ⟨by rw [hmap]; exact h.nd,fun y hy=>?_,fun u hu=>?_⟩
  ·obtain ⟨j,hj,hjy⟩:=List.mem_iff_getElem.1 hy
   rw [List.getElem_set] at hjy
   have hj2:j< xs.length:=by simpa using hj
   split at hjy
   ·subst hjy
    have:=h.el x (AV h3)
    simp only
    rw [if_pos h4,this.1]
    exact ⟨rfl,by simp⟩
   ·rename_i hij
    have hym:y∈xs:=hjy▸List.getElem_mem hj2
    have hne:¬ y.tag=t:=fun e=>hij (by
     have h5:(xs.map Pst.tag)[i]'(by simpa using hil)=(xs.map Pst.tag)[j]'(by simpa using hj2):=by simp [hie,hjy,h4,e]
     exact (List.getElem_inj (h₀:=by simpa using hil) (h₁:=by simpa using hj2) h.nd).1 h5)
    rw [if_neg hne,List.append_nil]
    exact h.el y hym
  ·have key:∃ y∈xs,y.tag=u:=by
    by_cases hut:u=t
    ·exact ⟨x,AV h3,h4.trans hut.symm⟩
    ·rw [if_neg hut,List.append_nil] at hu
     exact h.all u hu
   obtain ⟨y,hy,hyu⟩:=key
   have hm:u∈(xs.set i ⟨x.tag,x.ids++[k]⟩).map Pst.tag:=by rw [hmap]; exact List.mem_map.2 ⟨y,hy,hyu⟩
   obtain ⟨z,hz,hzu⟩:=List.mem_map.1 hm
   exact ⟨z,hz,hzu⟩
theorem RepP.congr {xs:List Pst}{L L':Tag→List Int}(h:RepP xs L) (e:∀ t,L t=L' t):RepP xs L':=by
 have:L=L':=funext e
 rw [← this]; exact h
theorem RepP.name (k:Int):∀ (n:List Tag) (xs:List Pst) (L:Tag→List Int),n.Nodup→RepP xs L→RepP (n.foldl (Il k) xs) (fun u=>L u++(if has n u then [k] else [])):=by
 intro n
 induction n with
 | nil=>intro xs L _ h; exact h.congr (fun t=>by simp [has])
 | cons t ts ih =>
   intro xs L hn h
   rw [List.nodup_cons] at hn
   refine (ih _ _ hn.2 (h.add k t)).congr (fun u=>?_)
   rw [List.append_assoc]
   congr 1
   by_cases hu:u=t
   ·subst hu
    have:has ts u=false:=by
     unfold has
     rw [List.any_eq_false]
     intro y hy e
     exact hn.1 (by rw [← eq_of_beq e]; exact hy)
    rw [this]
    simp [has]
   ·have:(t==u)=false:=by rw [beq_eq_false_iff_ne]; exact fun e=>hu e.symm
    simp only [if_neg hu,List.nil_append,has,List.any_cons,this,Bool.false_or]
    rfl
theorem RepP.bld:∀ (ns:List (List Tag)) (i:Nat) (xs:List Pst) (L:Tag→List Int),(∀ n∈ns,n.Nodup)→RepP xs L→RepP (JT i xs ns) (fun u=>L u++IG u i ns):=by
 intro ns
 induction ns with
 | nil=>intro i xs L _ h; exact h.congr (fun t=>by simp [IG])
 | cons n ns ih =>
   intro i xs L hn h
   refine (ih (i+1) _ _ (fun m hm=>hn m (by simp [hm])) (RepP.name _ n xs L (hn n AD) h)).congr (fun u=>?_)
   rw [List.append_assoc,IG]
theorem RepP.Zs {names:List (List Tag)}(h:NmI names):RepP (JT 0 [] names) (ids names) :=
 (RepP.bld names 0 [] (fun _=>[]) (fun n hn=>(JM (h.ok n hn)).1) ⟨by simp,by simp,by simp⟩).congr (fun u=>by unfold ids; simp)
theorem UK {names:List (List Tag)}{t:Tag}(h:ids names t≠[]):∃ n∈names,t∈n:=by
 unfold ids at h
 have:∀ (ns:List (List Tag)) (i:Nat),IG t i ns≠[]→∃ n∈ns,t∈n:=by
  intro ns
  induction ns with
  | nil=>intro i h; simp [IG] at h
  | cons n ns ih =>
    intro i h
    rw [IG] at h
    by_cases hb:has n t=true
    ·refine ⟨n,by simp,?_⟩
     unfold has at hb
     rw [List.any_eq_true] at hb
     obtain ⟨y,hy,e⟩:=hb
     rw [← eq_of_beq e]; exact hy
    ·rw [if_neg hb,List.nil_append] at h
     obtain ⟨m,hm,ht⟩:=ih (i+1) h
     exact ⟨m,by simp [hm],ht⟩
 exact this names 0 h
theorem KQ {α:Type}[DecidableEq α]:∀ (l U:List α),l.Nodup→(∀ x∈l,x∈U)→l.length≤U.length:=by
 intro l
 induction l with
 | nil=>intro U _ _; simp
 | cons a l ih =>
   intro U hn hU
   rw [List.nodup_cons] at hn
   have ha:=hU a AD
   have:=ih (U.erase a) hn.2 (fun x hx=>(List.mem_erase_of_ne (fun e:x=a=>hn.1 (by rw [← e]; exact hx))).2 (hU x (by simp [hx])))
   rw [List.length_erase_of_mem ha] at this
   have:=List.length_pos_of_mem ha
   simp only [List.length_cons]; omega
def Ru:List Tag:=[⟨[97],[112]⟩,⟨[97],[113]⟩,⟨[97],[122]⟩,⟨[98],[112]⟩,⟨[98],[113]⟩,⟨[98],[122]⟩,⟨[99],[112]⟩,⟨[99],[113]⟩,⟨[99],[122]⟩]
theorem S4 {t:Tag}(h:CD t=true) (hd:YO t):t∈Ru:=by
 obtain ⟨k,v⟩:=t
 obtain ⟨h1,h2⟩:=hd
 simp only [CD,AW] at h
 simp only [List.mem_cons,List.not_mem_nil,or_false] at h1 h2
 have hv:=EQ h.2
 have h3:v=[112]∨v=[113]∨v=[122]:=by
  rcases h2 with rfl | rfl | rfl | rfl | rfl | rfl
  ·exact .inl rfl
  ·exact .inr (.inl rfl)
  ·exact .inr (.inr rfl)
  ·simp at hv
  ·have:=h.2; simp [L2,inR] at this
  ·simp at hv
 rcases h1 with rfl | rfl | rfl <;> rcases h3 with rfl | rfl | rfl <;> simp [Ru]
theorem UL {names:List (List Tag)}(h:NmI names) (h2:NsD names):(JT 0 [] names).length≤12:=by
 have hr:=RepP.Zs h
 have:=KQ ((JT 0 [] names).map Pst.tag) Ru hr.nd (fun t ht=>by
  obtain ⟨x,hx,rfl⟩:=List.mem_map.1 ht
  have g:=hr.el x hx
  obtain ⟨n,hn,ht⟩:=UK (by rw [← g.1]; exact g.2:ids names x.tag≠[])
  have ho:=h.ok n hn
  simp only [Ar,AW] at ho
  exact S4 (Fb n none ho.1 _ ht) ((h2 n hn).2 _ ht))
 rw [List.length_map] at this
 have h9:Ru.length=9:=rfl
 omega
theorem Qu {α:Type}{R:α→α→Prop}(hirr:∀ a,¬ R a a) (htr:∀ a b c,R a b→R b c→R a c):∀ (xs ys:List α),xs.Pairwise R→ys.Pairwise R→(∀ a,a∈xs↔a∈ys)→xs=ys:=by
 intro xs
 induction xs with
 | nil =>
   intro ys _ _ h
   cases ys with
   | nil=>rfl
   | cons y ys=>exact absurd ((h y).2 AD) AD
 | cons x xs ih =>
   intro ys hx hy h
   cases ys with
   | nil=>exact absurd ((h x).1 AD) AD
   | cons y ys =>
     rw [List.pairwise_cons] at hx hy
     have hxy:x=y:=by
      have h1:=(h x).1 AD
      have h2:=(h y).2 AD
      rcases List.mem_cons.1 h1 with h1 | h1
      ·exact h1
      ·rcases List.mem_cons.1 h2 with h2 | h2
       ·exact h2.symm
       ·exact absurd (htr _ _ _ (hy.1 x h1) (hx.1 y h2)) (hirr y)
     subst hxy
     congr 1
     refine ih ys hx.2 hy.2 (fun a=>⟨fun ha=>?_,fun ha=>?_⟩)
     ·rcases List.mem_cons.1 ((h a).1 (by simp [ha])) with rfl | h1
      ·exact absurd (hx.1 _ ha) (hirr _)
      ·exact h1
     ·rcases List.mem_cons.1 ((h a).2 (by simp [ha])) with rfl | h1
      ·exact absurd (hy.1 _ ha) (hirr _)
      ·exact h1
theorem UM {names:List (List Tag)}(h:NmI names) (_h2:NsD names){xs zs:List Pst}(hp:zs.Perm xs) (hs:zs.Pairwise Le) (he:xs=JT 0 [] names):(⟨names,zs⟩:Idx)=idxOf names:=by
 have hr:=RepP.Zs h
 rw [← he] at hr
 unfold idxOf
 congr 1
 have hnd:(zs.map Pst.tag).Nodup:=(hp.map Pst.tag).nodup_iff.2 hr.nd
 have hz:zs.Pairwise (fun a b=>E1 a.tag b.tag=true):=by
  rw [List.pairwise_iff_getElem] at hs ⊢
  intro i j hi hj hij
  have h1:=hs i j hi hj hij
  unfold Le at h1
  rw [Oa] at h1
  cases h3:E1 zs[i].tag zs[j].tag with
  | true=>rfl
  | false =>
    have e:=Ni h3 (by simpa using h1)
    have h5:(zs.map Pst.tag)[i]'(by simpa using hi)=(zs.map Pst.tag)[j]'(by simpa using hj):=by simpa using e
    have:=(List.getElem_inj (h₀:=by simpa using hi) (h₁:=by simpa using hj) hnd).1 h5
    omega
 refine Qu (R:=fun (a b:Pst)=>E1 a.tag b.tag=true) (fun a ha=>by rw [Nh] at ha; cases ha) (fun a b c=>Hc) zs (D5 names) hz (OY names) (fun p=>⟨fun hpz=>?_,fun hpp=>?_⟩)
 ·have g:=hr.el p (hp.mem_iff.1 hpz)
  obtain ⟨n,hn,ht⟩:=UK (by rw [← g.1]; exact g.2:ids names p.tag≠[])
  have:=UB (names:=names) ((JM (h.ok n hn)).2 _ ht) (by rw [← g.1]; exact List.length_pos_iff.2 g.2)
  rw [← g.1] at this
  exact this
 ·obtain ⟨g1,g2,_⟩:=Sy hpp
  obtain ⟨x,hx,hxt⟩:=hr.all p.tag (by rw [← g1]; exact List.length_pos_iff.1 g2)
  have g:=hr.el x hx
  have:x=p:=(Tq x p).2 ⟨hxt,by rw [g.1,hxt,g1]⟩
  exact this▸hp.mem_iff.2 hx
end Go.Proofs.YtckdhcbbgmiccaaGreatDoor
namespace Go.Proofs.YtckdhcbbgmiccaaGreatDoor
set_option maxRecDepth 100000
set_option maxHeartbeats 4000000
variable {w:World} {F:Nat→Prop} {a1:Option Addr} {n1 c1:Nat}
theorem HE (names:List (List Tag)) (h1:RepS w F a1 n1 c1 names) (p0:names.length≤7) (p1:∀ n∈names,n.length≤5) (p2:(JT 0 [] names).length≤12):Calls Tryz.prog 56 [.slice a1 n1 c1].toArray w (Al fun rv w'=>(∃ (y:Idx),VS (ge w.heap.size) w' (y:Idx) rv∧(y.names=names∧(NmI names→NsD names→y=idxOf names)))∧Ext w w'):=by
 refine goT func56 ?_
 obtain ⟨rfl,dI,h1⟩:=h1.tp
 refine .s<|.g<|.np 34 [AH,AH] fun ac cN bA bB aE cO=>?_
 have cP:=Bq bA (Nat.le_refl _)
 replace h1:=(sn [] bB bA).g1 h1
 have am:=bB
 refine .d<|.s<|.g<|.r 1<|.cl (Af names h1.ta AB (fun n hn=>by have:=p1 n hn; omega) (w:=cN) (F:=all)) ?_
 rintro d7 af ⟨⟨bz,bS,bT,rfl,aF,br⟩,bY⟩
 have bZ:=al1 aE.lt
 have cQ:Gb w.heap.size cN.heap.size:=am.size
 have dJ:=DG br aE.lt
 have cR:=Ks br am.size
 replace ⟨h1,aE,am⟩:=(sz [ac] bY br).g3 h1 aE am
 replace aF:=Own.take (s0:=w.heap.size) (M:=[ac]) aF bZ cQ
 have dK:=aF.len
 have ax:=aF.sl cR
 replace h1:=(sd af [bz,ac] bz).g1 h1
 have ce:w.heap.size≤af.heap.size:=am.size
 replace ax:RepS af (nin (GN w.heap.size af.heap.size ac) [ac]) _ _ _ _:=ax.oT.Bx (fun b _ h=>⟨h,by simp; exact h.2.2⟩)
 have h1c:=h1.Zo; have hEc:=am; have hb2c:=aE
 refine .ns 0 145 [] fun aK dD bC bD cS cT=>?_
 have cU:Cov nil af aK:=ON bC (Nat.le_refl _)
 replace ax:=(sn [ac] bD bC).g1 ax
 have ao:=bD
 have aq:Own (α:=Pst) dD aK 145 (nin (ge w.heap.size) [aK,ac]) 0 0 []:=Own.BX cS
 refine .r 1<|.np 34 [AH,AH] fun ae d8 bt b0 cV cW=>?_
 have cX:=Ad bt aq.lt
 have cY:=ao.cn bt
 replace ⟨ax,aq,ao⟩:=(sn [aK,ac] b0 bt).g3 ax aq ao
 refine .sc [vS bz bS bT,vS aK 0 0] cV fun d9 b6 cZ c7=>?_
 replace ⟨ax,aq,ao⟩:=(so [ae,aK,ac] b6).g3 ax aq ao
 refine .d<|.s<|.s<|.g<|.r 3<|.d<|.b 0 ?_
 have hix:=IX.oU (tX:=34) (tP:=145) (tI:=3) (s0:=w.heap.size) (s1:=af.heap.size) ce (GN.lt (b2:=ac)) ax.w1 cZ aq cX (Cov.ge cY) (Cov.ge cU)
 have hE:=ao
 refine T.loop (X:=Nat × Nat × Nat × List RP × List Pst × List Nat) (aK,0,0,[],[],[]) (fun (r,c,k,ys,xs,rs)=>[(2,.pointer (some ⟨ac,0,none⟩)),(3,.pointer (some ⟨ae,0,none⟩)),(13,.slice a1 names.length c1),(14,vI (names.length:Int)),(15,vI (k:Int))]) (fun (r,c,k,ys,xs,rs) w_=>Ext af w_∧IX 34 145 3 w.heap.size af.heap.size (GN w.heap.size af.heap.size ac) w_ ae r c (some ⟨bz,0,none⟩) bS bT names ys xs rs∧k≤names.length∧xs.length≤5 * k∧(∀ x∈xs,x.ids.length≤5 * k)∧JT k xs (names.drop k)=JT 0 [] names) (fun (r,c,k,ys,xs,rs)=>names.length - k) AA ⟨AA,AA,AA,AA,AA,trivial⟩ ⟨hE,hix,by omega,by simp,by simp,rfl⟩ ?_
 rintro ⟨r,c,k,ys,xs,rs⟩ e1_ ec ⟨hE,hix,hk,hxl,hil,hbl⟩ bU
 have hnm:=h1c.ext hE
 refine .s<|.g<|.bp ((k:Int)< (names.length:Int)) (fun c8=>?_) (fun c8=>?_)
 ·refine .d<|.s<|.ct<|.sk<|.s<|.b 1<|.s<|.g<|.r 1 ?_
  have da:k< names.length:=AB
  refine .ix k 1 hnm da ?_
  obtain ⟨ak,aG⟩:∃ y,names[k]? = some y:=⟨_,AU AB⟩
  obtain ⟨_,⟨dE,ee,dF,rfl,cg⟩,db⟩:=hnm.elem k ak aG
  have de:=cg.len
  subst de
  have dN:=cg.max
  refine .lh 0 db<|.r 2<|.d<|.s<|.g<|.r 3<|.d<|.b 2 ?_
  have hEA:=hE; have eg:=p1 ak (AV aG)
  refine T.loop (X:=Nat × Nat × Nat × List RP × List Pst × List Nat) (r,c,0,ys,xs,rs) (fun (rq,cq,j,ab,aa,ah)=>[(2,.pointer (some ⟨ac,0,none⟩)),(3,.pointer (some ⟨ae,0,none⟩)),(4,vI (k:Int)),(13,.slice a1 names.length c1),(14,vI (names.length:Int)),(15,vI (k:Int)),(20,.slice dE ak.length dF),(21,vI (ak.length:Int)),(22,vI (j:Int))]) (fun (rq,cq,j,ab,aa,ah) w_=>Ext af w_∧IX 34 145 3 w.heap.size af.heap.size (GN w.heap.size af.heap.size ac) w_ ae rq cq (some ⟨bz,0,none⟩) bS bT names ab aa ah∧j≤ak.length∧aa.length≤5 * k+j∧(∀ x∈aa,x.ids.length≤5 * k+j)∧(ak.drop j).foldl (Il ((k:Int)+1)) aa=ak.foldl (Il ((k:Int)+1)) xs) (fun (rq,cq,j,ab,aa,ah)=>ak.length - j) AA ⟨AA,AA,AA,AA,AA,AA,AA,AA,AA,trivial⟩ ⟨hE,hix,by omega,by omega,fun x hx=>by have:=hil x hx; omega,rfl⟩ ?_
  rintro ⟨rq,cq,j,ab,aa,ah⟩ e2_ eh ⟨hE,hix,hj,b7,al,hfl⟩ bu
  have df:=cg.via hEA hE
  refine .s<|.g<|.bp ((j:Int)< (ak.length:Int)) (fun dh=>?_) (fun dh=>.d<|.s<|.cf<|.x 2 rfl<|.ib 1<|.g<|.it ((k:Int)+1)<|.r 1<|.d<|bU (rq,cq,k+1,ab,aa,ah) _ _ ⟨AA,AA,AA,AA,AA,trivial⟩ ⟨hE,hix,by omega,by omega,fun x hx=>by have:=al x hx; omega,Wn hbl (drop_at aG) (F6 hfl AB)⟩ (by (simp only []; omega)))
  refine .d<|.s<|.ct<|.sk<|.s<|.b 3<|.s<|.g ?_
  have dj:j< ak.length:=AB
  refine .ix j 2 df dj ?_
  obtain ⟨E,aH⟩:∃ y,ak[j]? = some y:=⟨_,AU AB⟩
  obtain ⟨_,rfl,dm⟩:=df.elem j E aH
  refine .lg 0 dm<|.np 96 [.string (bs []),.string (bs [])] fun dp ej bE bF dq ci=>?_
  have cj:∀ q_∈ae::rq::ah,Nb dp q_:=fun q_ hq_=>Ad bE (hix.lt q_ hq_)
  have bG:af.heap.size≤dp:=Nat.le_trans hE.size (Nat.le_of_eq (Eq.symm bE))
  replace hix:=hix.ext bF
  replace hE:=hE.trans bF
  refine .sc [vT E.key,vT E.val] dq fun dt aL ay ck=>?_
  replace hix:=hix.one aL cj bG
  replace hE:=Chg.G9 hE aL ⟨.inr bG⟩
  refine .d<|.s<|.g<|.r 1<|.lb hix.box<|.r 1<|.cl (JR aa E (hix.rep.Bx (F':=all) (fun _ _ _=>trivial)) ay (w:=dt) (F:=all)) ?_
  rintro dP bH ⟨rfl,az⟩
  replace ay:=ay.ext az
  replace hix:=hix.ext az
  replace hE:=hE.trans az
  refine .r 1<|.d<|.s<|.s<|.g<|.r 1<|.bp (Cf E 0 aa< 0) (fun cm=>?_) (fun cm=>?_)
  ·refine .d<|.ct<|.s<|.g<|.r 1<|.lb hix.box<|.r 2<|.d<|.g<|.r 1<|.lb hix.box<|.ln ay<|.r 1<|.ns 1 145 [vT E.key,vT E.val,AH] fun ar dQ aM aN bI co=>?_
   have bJ:∀ q_∈ae::rq::ah,Nb ar q_:=fun q_ hq_=>Ad aM (hix.lt q_ hq_)
   have cp:af.heap.size≤ar:=Nat.le_trans hE.size (Nat.le_of_eq (Eq.symm aM))
   replace hix:=hix.ext aN
   replace hE:=hE.trans aN
   have b8:=hix.lx; have du:=hix.lr; have hvl_:=bI.lt; have hge_r:=hix.new rq AJ; have cr:=hix.new ae AI; have hEs:=hE.size
   refine RG.DV (T:=32) (ty:=32) (y:=(⟨E.key,E.val,none,0,0⟩:RP)) hix.own bI AA AA rfl ⟨trivial,bJ rq AJ⟩ AB fun ag b9 dR cu bV aO=>?_
   replace hE:=Chg.G9 hE aO ⟨.inr hge_r⟩
   refine .r 1<|.ss 1 (vS ag (ab.length+1) b9) (hix.box.chg aO (Nb.one hix.ne)) fun bK aP cw cx=>?_
   replace hix:=hix.push (t:=⟨E.key,E.val⟩) (vb:=ar) hEs aO cu bV bJ cp hvl_ aP cw
   replace hE:=Chg.G9 hE aP ⟨.inr cr⟩
   refine .d ?_
   obtain ⟨xi,hxi⟩:∃ q,(aa++[(⟨⟨E.key,E.val⟩,[]⟩:Pst)])[ab.length]? = some q:=⟨_,AU (by (simp; omega))⟩
   obtain ⟨yi,hyi⟩:∃ q,(ab++[(⟨E.key,E.val,none,0,0⟩:RP)])[ab.length]? = some q:=⟨_,AU (by (simp; done))⟩
   obtain ⟨ri,hri⟩:∃ q,(ah++[ar])[ab.length]? = some q:=⟨_,AU (by (simp; omega))⟩
   have hiy:ab.length< (ab++[(⟨E.key,E.val,none,0,0⟩:RP)]).length:=(List.getElem?_eq_some_iff.1 hyi).1
   have hl3_:ae< bK.heap.size:=hix.lt _ AI; have hlr_:ag< bK.heap.size:=hix.lt _ AJ; have hn3_:=hix.ne3 hri; have hnr_:=hix.ner hri
   refine .gd (mtb [ri] bK.heap.size) 13 fun dv aQ=>?_
   replace hix:=hix.ext aQ
   replace hE:=hE.trans aQ
   refine .r [0]<|.lb 1 hix.box (DH (all_cons hn3_ all_nil) hl3_)<|.r [2,3]<|.lb 4 hix.box (DH (all_cons hn3_ all_nil) hl3_)<|.r [5] ?_
   have cy:ab.length< (ab++[(⟨E.key,E.val,none,0,0⟩:RP)]).length:=AB
   refine GA.idx (i:=6) (b:=ag) (o:=0) ab.length (len:=(ab++[(⟨E.key,E.val,none,0,0⟩:RP)]).length) (z:=(ab.length:Int)) (sz:=3) AA AB cy rfl<|.r [7] ?_
   obtain ⟨_,rfl,aR⟩:=hix.own.elem ab.length yi hyi
   replace aR:Has dv ⟨ag,0+ab.length * Rep.sz RP,none⟩ [vT yi.key,vT yi.val,.slice yi.a yi.n yi.c]:=by rw [Nat.zero_add]; exact aR
   refine .lh 8 2 aR (DH (all_cons hnr_ all_nil) hlr_)<|.r [9]<|GA.int (i:=10) ((k:Int)+1) AA AB<|.go 11<|.ns 1 3 [vI ((k:Int)+1)] fun dS aS=>?_
   replace hix:=hix.ext aS
   replace hE:=hE.trans aS
   intro bL dT aT aU aV cz
   have cA:∀ q_∈ae::ag::(ah++[ar]),Nb bL q_:=fun q_ hq_=>Ad aT (hix.lt q_ hq_)
   replace hix:=hix.ext aU
   replace hE:=hE.trans aU
   refine .go 12<|GE.append (T:=40) (ty:=40) (args:=[.slice yi.a yi.n yi.c,vS bL 1 1]) AA fun dU aA=>?_
   replace aV:=aV.ext aA
   replace hix:=hix.ext aA
   replace hE:=hE.trans aA
   have hyn:=(hix.el ab.length xi yi ri hxi hyi hri).2.2.n; have hyl:xi.ids.length≤1000:=by have hm:=AV hxi; (rcases List.mem_append.1 hm with hm | hm; (have:=al _ hm; omega); (simp at hm; subst hm; simp))
   have bM:=hE.size; have hge_ri:=hix.new ri (IX.mi hri)
   obtain ⟨aI,bv,dV,bN,aW,bW,ai⟩:=NG.app (P:=Tryz.prog) (T:=40) (ty:=40) (hix.el ab.length xi yi ri hxi hyi hri).2.2 AA aV (cA ri (IX.mi hri)) AB
   refine ⟨_,_,bN,Chg.toS ai (.inl AI),?_⟩
   replace hE:=Chg.G9 hE ai ⟨.inr hge_ri⟩
   refine .d fun dw aB=>?_
   replace ai:=Chg.trans ai (Ext.chg aB)
   replace aW:=aW.ext aB
   replace hE:=hE.trans aB
   have cB:ab.length< (ab++[(⟨E.key,E.val,none,0,0⟩:RP)]).length:=AB
   refine RG.idx (b:=ag) (o:=0) ab.length (len:=(ab++[(⟨E.key,E.val,none,0,0⟩:RP)]).length) (i:=(ab.length:Int)) (sz:=3) AA AB cB rfl<|.r 1 ?_
   have bO:=UH Lf hix.own ai (Nb.one (hix.ner hri))
   obtain ⟨_,rfl,aX⟩:=bO.elem ab.length yi hyi
   replace aX:Has dw ⟨ag,0+ab.length * Rep.sz RP,none⟩ [vT yi.key,vT yi.val,.slice yi.a yi.n yi.c]:=by rw [Nat.zero_add]; exact aX
   refine RG.FV (t':=40) (i:=ab.length) (k:=2) (v:=vS aI (yi.n+1) bv) (cs:=[vT yi.key,vT yi.val,.slice yi.a yi.n yi.c]) (⟨yi.key,yi.val,some ⟨aI,0,none⟩,yi.n+1,bv⟩:RP) bO hyi aX AA AA AA rfl fun dW cC aY cD=>?_
   have hge_r2:=hix.new ag AJ
   replace hix:=hix.upd (i:=ab.length) (z:=(k:Int)+1) bM hxi hyi hri ai aW bW aY (y':=(⟨yi.key,yi.val,some ⟨aI,0,none⟩,yi.n+1,bv⟩:RP)) rfl cC
   replace hE:=Chg.G9 hE aY ⟨.inr hge_r2⟩
   refine .d<|.ib 3<|.g<|.it ((j:Int)+1)<|.r 1<|.d ?_
   have hxN:((aa++[(⟨⟨E.key,E.val⟩,[]⟩:Pst)]).set ab.length ⟨xi.tag,xi.ids++[(k:Int)+1]⟩)=Il ((k:Int)+1) aa E:=(YU hxi (by rw [← b8])).trans (Pa ‹_›).symm
   have hbd:=Pc ((k:Int)+1) aa E (5 * k+j) b7 al; rw [← hxN] at hbd
   have hfs:=Ff hfl (drop_at aH); rw [← hxN] at hfs
   exact bu (ag,b9,j+1,((ab++[(⟨E.key,E.val,none,0,0⟩:RP)]).set ab.length (⟨yi.key,yi.val,some ⟨aI,0,none⟩,yi.n+1,bv⟩:RP)),((aa++[(⟨⟨E.key,E.val⟩,[]⟩:Pst)]).set ab.length ⟨xi.tag,xi.ids++[(k:Int)+1]⟩),((ah++[ar]).set ab.length aI)) _ _ ⟨AA,AA,AA,AA,AA,AA,AA,AA,AA,trivial⟩ ⟨hE,hix,by omega,by have:=hbd.1; omega,fun x hx=>by have:=hbd.2 x hx; omega,hfs⟩ (by (simp only []; omega))
  refine .d<|.cf<|.sk ?_
  have b8:=hix.lx; have du:=hix.lr; have hib:=Wm (t:=E) (xs:=aa) ‹_›
  obtain ⟨xi,hxi⟩:∃ q,aa[(Cf E 0 aa).toNat]? = some q:=⟨_,AU AB⟩
  obtain ⟨yi,hyi⟩:∃ q,ab[(Cf E 0 aa).toNat]? = some q:=⟨_,AU AB⟩
  obtain ⟨ri,hri⟩:∃ q,ah[(Cf E 0 aa).toNat]? = some q:=⟨_,AU AB⟩
  have hiy:(Cf E 0 aa).toNat< ab.length:=(List.getElem?_eq_some_iff.1 hyi).1
  have hl3_:ae< bH.heap.size:=hix.lt _ AI; have hlr_:rq< bH.heap.size:=hix.lt _ AJ; have hn3_:=hix.ne3 hri; have hnr_:=hix.ner hri
  refine .gd (mtb [ri] bH.heap.size) 13 fun dx aZ=>?_
  replace hix:=hix.ext aZ
  replace hE:=hE.trans aZ
  refine .r [0]<|.lb 1 hix.box (DH (all_cons hn3_ all_nil) hl3_)<|.r [2,3]<|.lb 4 hix.box (DH (all_cons hn3_ all_nil) hl3_)<|.r [5] ?_
  have cE:(Cf E 0 aa).toNat< ab.length:=AB
  refine GA.idx (i:=6) (b:=rq) (o:=0) ((Cf E 0 aa).toNat) (len:=ab.length) (z:=Cf E 0 aa) (sz:=3) AA AB cE rfl<|.r [7] ?_
  obtain ⟨_,rfl,ba⟩:=hix.own.elem ((Cf E 0 aa).toNat) yi hyi
  replace ba:Has dx ⟨rq,0+((Cf E 0 aa).toNat) * Rep.sz RP,none⟩ [vT yi.key,vT yi.val,.slice yi.a yi.n yi.c]:=by rw [Nat.zero_add]; exact ba
  refine .lh 8 2 ba (DH (all_cons hnr_ all_nil) hlr_)<|.r [9]<|GA.int (i:=10) ((k:Int)+1) AA AB<|.go 11<|.ns 1 3 [vI ((k:Int)+1)] fun dX bd=>?_
  replace hix:=hix.ext bd
  replace hE:=hE.trans bd
  intro bP dY bg bh bi cF
  have cG:∀ q_∈ae::rq::ah,Nb bP q_:=fun q_ hq_=>Ad bg (hix.lt q_ hq_)
  replace hix:=hix.ext bh
  replace hE:=hE.trans bh
  refine .go 12<|GE.append (T:=40) (ty:=40) (args:=[.slice yi.a yi.n yi.c,vS bP 1 1]) AA fun dZ aC=>?_
  replace bi:=bi.ext aC
  replace hix:=hix.ext aC
  replace hE:=hE.trans aC
  have hyn:=(hix.el (Cf E 0 aa).toNat xi yi ri hxi hyi hri).2.2.n; have hyl:xi.ids.length≤1000:=by have hm:=AV hxi; (have:=al _ hm; omega)
  have bM:=hE.size; have hge_ri:=hix.new ri (IX.mi hri)
  obtain ⟨aJ,bw,d0,bQ,bj,bX,aj⟩:=NG.app (P:=Tryz.prog) (T:=40) (ty:=40) (hix.el (Cf E 0 aa).toNat xi yi ri hxi hyi hri).2.2 AA bi (cG ri (IX.mi hri)) AB
  refine ⟨_,_,bQ,Chg.toS aj (.inl AI),?_⟩
  replace hE:=Chg.G9 hE aj ⟨.inr hge_ri⟩
  refine .d fun dy aD=>?_
  replace aj:=Chg.trans aj (Ext.chg aD)
  replace bj:=bj.ext aD
  replace hE:=hE.trans aD
  have cH:(Cf E 0 aa).toNat< ab.length:=AB
  refine RG.idx (b:=rq) (o:=0) ((Cf E 0 aa).toNat) (len:=ab.length) (i:=Cf E 0 aa) (sz:=3) AA AB cH rfl<|.r 1 ?_
  have bR:=UH Lf hix.own aj (Nb.one (hix.ner hri))
  obtain ⟨_,rfl,bk⟩:=bR.elem ((Cf E 0 aa).toNat) yi hyi
  replace bk:Has dy ⟨rq,0+((Cf E 0 aa).toNat) * Rep.sz RP,none⟩ [vT yi.key,vT yi.val,.slice yi.a yi.n yi.c]:=by rw [Nat.zero_add]; exact bk
  refine RG.FV (t':=40) (i:=((Cf E 0 aa).toNat)) (k:=2) (v:=vS aJ (yi.n+1) bw) (cs:=[vT yi.key,vT yi.val,.slice yi.a yi.n yi.c]) (⟨yi.key,yi.val,some ⟨aJ,0,none⟩,yi.n+1,bw⟩:RP) bR hyi bk AA AA AA rfl fun d3 cI bm cJ=>?_
  have hge_r2:=hix.new rq AJ
  replace hix:=hix.upd (i:=(Cf E 0 aa).toNat) (z:=(k:Int)+1) bM hxi hyi hri aj bj bX bm (y':=(⟨yi.key,yi.val,some ⟨aJ,0,none⟩,yi.n+1,bw⟩:RP)) rfl cI
  replace hE:=Chg.G9 hE bm ⟨.inr hge_r2⟩
  refine .d<|.ib 3<|.g<|.it ((j:Int)+1)<|.r 1<|.d ?_
  have hxN:(aa.set ((Cf E 0 aa).toNat) ⟨xi.tag,xi.ids++[(k:Int)+1]⟩)=Il ((k:Int)+1) aa E:=(Pb ‹_› hxi).symm
  have hbd:=Pc ((k:Int)+1) aa E (5 * k+j) b7 al; rw [← hxN] at hbd
  have hfs:=Ff hfl (drop_at aH); rw [← hxN] at hfs
  exact bu (rq,cq,j+1,(ab.set ((Cf E 0 aa).toNat) (⟨yi.key,yi.val,some ⟨aJ,0,none⟩,yi.n+1,bw⟩:RP)),(aa.set ((Cf E 0 aa).toNat) ⟨xi.tag,xi.ids++[(k:Int)+1]⟩),(ah.set ((Cf E 0 aa).toNat) aJ)) _ _ ⟨AA,AA,AA,AA,AA,AA,AA,AA,AA,trivial⟩ ⟨hE,hix,by omega,by have:=hbd.1; omega,fun x hx=>by have:=hbd.2 x hx; omega,hfs⟩ (by (simp only []; omega))
 refine .d<|.s<|.cf<|.x 0 rfl<|.s<|.g<|.r 1 ?_
 have hEw:=hEc.trans hE; have hb2n:=hb2c.ext hE; have hb2l:=hb2c.lt; have hoP:=hix.Zp hb2l; have hNn:=hix.YT; have hb3n:=hix.box; have hn3r:=hix.ne
 have d4:Nb ae ac:=DG (hix.new _ AI) hb2l; have d5:Nb r ac:=DG (hix.new _ AJ) hb2l
 have hgr:Gb w.heap.size r:=Nat.le_trans ce (hix.new _ AJ)
 have hbe:=YV hbl AB
 refine .lb hb3n<|.cl (KP hoP (by rw [hix.lx,hbe]; exact p2)) ?_
 rintro d6 dz ⟨rfl,cK,hperm_,hsort_,bn,bo⟩
 replace ⟨hNn,hb3n,hb2n⟩:=(so [ae,r,ac] bo).g3 hNn hb3n hb2n
 replace hEw:Chg nil w dz:=Chg.G9 hEw bo ⟨.inr hgr⟩
 refine .d<|.s<|.g<|.ln hb3n<|.sc [vS bz bS bT,vS r ys.length c] hb2n fun cd bq cL cM=>?_
 replace ⟨hNn,bn,hb3n⟩:=(so [ae,r,ac] bq).g3 hNn bn hb3n
 replace hEw:Chg nil w cd:=Chg.G9 hEw bq ⟨.inr cP⟩
 refine .d ?_
 have dA:=bn.sl hgr
 replace hNn:=(sd cd [ae,r,ac] r).g1 hNn
 exact .rb func56 results56 cL ⟨⟨((⟨names,cK⟩:Idx):Idx),⟨_,rfl,⟨_,_,_,_,_,_,rfl,hNn.w1,dA.w1⟩⟩,(by exact ⟨rfl,fun a b=>UM a b hperm_ hsort_ hbe⟩)⟩,hEw⟩
theorem CM (names:List (List Tag)) (h1:RepS w F a1 n1 c1 names) (p0:NmI names) (p1:NsD names):Calls Tryz.prog 56 [.slice a1 n1 c1].toArray w (Al fun rv w'=>VS (ge w.heap.size) w' (idxOf names:Idx) rv∧Ext w w'):=by
 refine (HE names h1 (by have:=p0.len; omega) (fun n hn=>(p1 n hn).1) (UL p0 p1)).mono ?_
 rintro e w' ⟨v,rfl,⟨y,hv,hy⟩,hx⟩
 exact ⟨v,rfl,by rw [← hy.2 p0 p1]; exact hv,hx⟩
end Go.Proofs.YtckdhcbbgmiccaaGreatDoor
namespace Go.Proofs.YtckdhcbbgmiccaaGreatDoor
theorem Wo {t:Tag}(h:CD t=true):∃ x y,t=⟨[x],[y]⟩:=by
 obtain ⟨k,v⟩:=t
 simp only [CD,AW] at h
 have h1:k.length=1:=EQ h.1
 have h2:v.length=1:=EQ h.2
 match k,v,h1,h2 with
 | [x],[y],_,_=>exact ⟨x,y,rfl⟩
theorem S5:∀ (n m:List Tag) (i:Nat),(∀ t∈n,CD t=true)→(∀ t∈m,CD t=true)→EF i n=EF i m→n=m:=by
 intro n
 induction n with
 | nil =>
   intro m i _ hm h
   cases m with
   | nil=>rfl
   | cons t ts =>
     obtain ⟨x,y,rfl⟩:=Wo (hm t AD)
     simp [EF,HS] at h
 | cons t ts ih =>
   intro m i hn hm h
   obtain ⟨x,y,rfl⟩:=Wo (hn t AD)
   cases m with
   | nil=>simp [EF,HS] at h
   | cons u us =>
     obtain ⟨x',y',rfl⟩:=Wo (hm u AD)
     simp only [EF,HS,List.append_assoc] at h
     have h2:=List.append_cancel_left h
     simp only [List.cons_append,List.nil_append,List.cons.injEq,true_and] at h2
     obtain ⟨rfl,rfl,h3⟩:=h2
     rw [ih us (i+1) (fun t ht=>hn t (by simp [ht])) (fun t ht=>hm t (by simp [ht])) h3]
theorem Hd {n:List Tag}(h:Ar n=true):∀ t∈n,CD t=true:=by
 simp only [Ar,AW] at h
 exact Fb n none h.1
theorem Pe {n m:List Tag}(hn:Ar n=true) (hm:Ar m=true) (h:text n=text m):n=m:=S5 n m 0 (Hd hn) (Hd hm) h
theorem YW {names:List (List Tag)}{n:List Tag}(h:∀ m∈names,Ar m=true) (hn:Ar n=true):∀ i,nmF (text n) i names=Dw n i names+1:=by
 induction names with
 | nil=>intro i; rfl
 | cons x xs ih =>
   intro i
   unfold nmF Dw
   by_cases hx:x=n
   ·rw [if_pos (by simp [hx]),if_pos (by simp [hx])]
   ·have h1:¬ (text x==text n)=true:=fun e=>hx (Pe (h x AD) hn (eq_of_beq e))
    have h2:¬ (x==n)=true:=fun e=>hx (eq_of_beq e)
    rw [if_neg h1,if_neg h2]
    exact ih (fun m hm=>h m (by simp [hm])) (i+1)
theorem He {x:Idx}{n:List Tag}(h:NmI x.names) (hn:Ar n=true):HL x n=Dw n 0 x.names+1:=YW h.ok hn 0
def Cd (x:Idx) (n:List Tag):Idx × Int × Bool:=if Ar n=true then BY x n else (⟨[],[]⟩,0,false)
theorem Oc {x:Idx}{n:List Tag}(h:Ar n=false):Cd x n=(⟨[],[]⟩,0,false):=by unfold Cd; rw [if_neg (by simp [h])]
theorem H8 {x:Idx}{n:List Tag}(h:Ar n=true):Cd x n=BY x n:=by unfold Cd; rw [if_pos h]
theorem MN {x:Idx}{n:List Tag}(hx:IxI x) (h:Ar n=true) (h1:Dw n 0 x.names+1 > 0):Cd x n=(idxOf x.names,Dw n 0 x.names+1,true):=by
 rw [H8 h,HW (by rw [He hx.nm h]; exact h1),He hx.nm h,← hx.eq]
theorem KR {x:Idx}{n:List Tag}(hx:IxI x) (h:Ar n=true) (h1:¬ Dw n 0 x.names+1 > 0) (h2:(x.names.length:Int)=6):Cd x n=(idxOf x.names,0,false):=by
 rw [H8 h,F1 (by rw [He hx.nm h]; exact h1) (.inr AB),← hx.eq]
theorem Gh {x:Idx}{n:List Tag}(hx:IxI x) (h:Ar n=true) (h1:¬ Dw n 0 x.names+1 > 0) (h2:(x.names.length:Int)≠6):Cd x n=(idxOf (x.names++[n]),(x.names.length:Int)+1,true):=by
 rw [H8 h,HX (by rw [He hx.nm h]; exact h1) h (by have:=hx.nm.len; omega)]
theorem NmI.Zt {x:Idx}{n:List Tag}(hx:IxI x) (h:Ar n=true) (h1:¬ Dw n 0 x.names+1 > 0) (h2:(x.names.length:Int)≠6):NmI (x.names++[n]):=by
 refine NmI.add (ps:=x.AY) hx.nm h ?_ (by have:=hx.nm.len; omega)
 have:=He (x:=⟨x.names,x.AY⟩) hx.nm h
 rw [this]; exact h1
theorem NsD.add {names:List (List Tag)}{n:List Tag}(h:NsD names) (hn:NmD n):NsD (names++[n]):=fun m hm=>by
 rcases List.mem_append.1 hm with hm | hm
 ·exact h m hm
 ·simp at hm; rw [hm]; exact hn
theorem Nj:∀ (is:List Int) (bs:List (List Row)) (o:Option Int),CB o is bs=true→(∀ q,o=some q→∀ i∈is,q< i)∧∀ m,M6 m is=(match is.getLast? with | some l=>if l > m then l else m | none=>m)∨is=[]:=by
 intro is
 induction is with
 | nil=>intro bs o _; exact ⟨fun _ _ i hi=>(by cases hi),fun m=>.inr rfl⟩
 | cons x xs ih =>
   intro bs o h
   cases bs with
   | nil=>simp [CB] at h
   | cons b bs =>
     simp only [CB,AW] at h
     obtain ⟨⟨⟨⟨_,h2⟩,_⟩,_⟩,h5⟩:=h
     obtain ⟨g1,g2⟩:=ih bs (some x) h5
     refine ⟨fun q hq i hi=>?_,fun m=>.inl ?_⟩
     ·subst hq
      have hqx:q< x:=by simpa using h2
      rcases List.mem_cons.1 hi with rfl | hi
      ·exact hqx
      ·have:=g1 x rfl i hi; omega
     ·unfold M6
      rcases g2 (if x > m then x else m) with g | g
      ·rw [g]
       cases hl:xs.getLast? with
       | none =>
         have:xs=[]:=List.getLast?_eq_none_iff.1 hl
         subst this
         simp
       | some l =>
         have hlm:=g1 x rfl l (List.mem_of_getLast? hl)
         have e:(x::xs).getLast? = some l:=by rw [List.getLast?_cons,hl]; rfl
         rw [e]
         simp only
         repeat' split
         all_goals omega
      ·subst g
       simp [M6]
theorem MO {p:Prt}{n:Int}(h:Ay p=true) (h0:(p.ids.length:Int)≠0):Bv p n = !decide (maxOf p.ids > n):=by
 unfold Bv
 rw [h,Bool.true_and]
 unfold Ay at h
 simp only [AW,decide_eq_true_eq] at h
 match hi:p.ids,h.2 with
 | [],_=>rw [hi] at h0; simp at h0
 | x :: xs, hg =>
   cases hb:p.blocks with
   | nil=>rw [hb] at hg; simp [CB] at hg
   | cons b bs =>
     rw [hb] at hg
     simp only [CB,AW] at hg
     obtain ⟨g1,g2⟩:=Nj xs bs (some x) hg.2
     show (match (x::xs).getLast? with | some i=>decide (i≤n) | none=>false) = !decide (M6 x xs > n)
     rcases g2 x with g | g
     ·rw [g]
      cases hl:xs.getLast? with
      | none =>
        have:xs=[]:=List.getLast?_eq_none_iff.1 hl
        subst this
        simp only [List.getLast?_singleton]
        rw [Bool.eq_iff_iff]; simp
      | some l =>
        have hlm:=g1 x rfl l (List.mem_of_getLast? hl)
        have e:(x::xs).getLast? = some l:=by rw [List.getLast?_cons,hl]; rfl
        rw [e]
        simp only
        simp only [show l > x from hlm,if_true]
        rw [Bool.eq_iff_iff]; simp
     ·subst g
      simp only [List.getLast?_singleton,M6]
      rw [Bool.eq_iff_iff]; simp
theorem UN {p:Prt}{n:Int}(h:Ay p=false):Bv p n=false:=by unfold Bv; rw [h]; rfl
theorem UO {p:Prt}{n:Int}(h:(p.ids.length:Int)=0):Bv p n=false:=by
 have:p.ids=[]:=List.eq_nil_of_length_eq_zero AB
 unfold Bv; rw [this]; simp
theorem UP {p:Prt}{n:Int}(h:Ay p=true) (h0:(p.ids.length:Int)≠0) (h1:maxOf p.ids > n):Bv p n=false:=by rw [MO h h0]; simp [h1]
theorem UQ {p:Prt}{n:Int}(h:Ay p=true) (h0:(p.ids.length:Int)≠0) (h1:¬ maxOf p.ids > n):Bv p n=true:=by rw [MO h h0]; simp [h1]
theorem FR {p:Prt}{n:Int}(h:Bv p n=true):Ay p=true:=by
 unfold Bv at h
 simp only [AW] at h
 exact h.1
structure StoK (s:Sto):Prop where
 sd:SD s
 part:∀ p∈s.parts,PrtI p∧Ay p=true
 row:∀ m∈s.mem,Be m.row=true
 id:∀ m∈s.mem,1≤m.id∧m.id≤s.idx.names.length
 nm2:s.mem.length≤20
theorem StoK.of {s:Sto}(h:SD s) (hk:Ab s=true):StoK s:=by
 unfold Ab at hk
 simp only [AW,decide_eq_true_eq,List.all_eq_true] at hk
 obtain ⟨⟨⟨⟨_,h2⟩,h3⟩,h4⟩,_⟩:=hk
 refine ⟨h,fun p hp=>⟨h.part p hp,FR (h3 p hp)⟩,fun m hm=>?_,fun m hm=>?_,h2⟩
 ·have:=h4 m hm
  unfold FE at this
  simp only [AW] at this
  exact this.2
 ·have:=h4 m hm
  unfold FE at this
  simp only [AW] at this
  exact Bd this.1
theorem StoK.KS {s:Sto}(h:StoK s):StoI s:=⟨h.sd.idx,h.sd.nm,h.sd.np,h.sd.part,h.nm2,fun m hm=>⟨(h.id m hm).1,(h.id m hm).2,h.row m hm⟩⟩
theorem StoK.pt {s:Sto}(h:SD s) (h3:s.parts.all (fun p=>Bv p s.idx.names.length)=true):∀ p∈s.parts,PrtI p∧Ay p=true:=fun p hp=>⟨h.part p hp,FR (List.all_eq_true.1 h3 p hp)⟩
theorem StoK.rw {s:Sto}(h4:s.mem.all (FE s.idx.names.length)=true):∀ m∈s.mem,Be m.row=true:=fun m hm=>by
 have:=List.all_eq_true.1 h4 m hm
 unfold FE at this
 simp only [AW] at this
 exact this.2
def IV (s:Sto) (id:Int):List Row:=if Ab s=true∧inR id 1 s.idx.names.length=true then rowsOf s id else []
theorem S6 {s:Sto}{id:Int}(h:Ab s=true) (h2:inR id 1 s.idx.names.length=true):IV s id=rowsOf s id:=by unfold IV; rw [if_pos ⟨h,h2⟩]
section
variable {s:Sto} {n:List Tag} {r:Row}
theorem YX (_h:SD s) (hn:Ar n=true) (h1:(Cd s.idx n).2.2=false):CQ s n r=(s,false):=by rw [H8 hn] at h1; exact L6 h1
theorem YY (_h:SD s) (_hn:Ar n=true) (h1:Be r=false):CQ s n r=(s,false):=L7 h1
theorem YZ (_h:SD s) (_hn:Ar n=true) (h1:(s.mem.length:Int)=20):CQ s n r=(s,false):=Qg AB
theorem Xy (h:Ab s=true):s.mem.length≤20:=by
 unfold Ab at h
 simp only [AW,decide_eq_true_eq] at h
 exact h.1.1.1.2
theorem Ya (_h:SD s) (hk:Ab s=true) (hn:Ar n=true) (h1:(Cd s.idx n).2.2=true) (h2:Be r=true) (h3:(s.mem.length:Int)≠20)
 (h4:((rowsOf (⟨⟨(Cd s.idx n).1.names,(Cd s.idx n).1.AY⟩,(Ai s).parts,(Ai s).mem++[⟨(Cd s.idx n).2.1,r⟩]⟩:Sto) (Cd s.idx n).2.1).length:Int) > 24):CQ s n r=(s,false):=by
 rw [H8 hn] at h1 h4
 have:=Xy hk
 exact Gz h1 h2 AB h4
theorem Yb (_h:SD s) (hk:Ab s=true) (hn:Ar n=true) (h1:(Cd s.idx n).2.2=true) (h2:Be r=true) (h3:(s.mem.length:Int)≠20)
 (h4:¬ ((rowsOf (⟨⟨(Cd s.idx n).1.names,(Cd s.idx n).1.AY⟩,(Ai s).parts,(Ai s).mem++[⟨(Cd s.idx n).2.1,r⟩]⟩:Sto) (Cd s.idx n).2.1).length:Int) > 24):CQ s n r=(⟨(Cd s.idx n).1,s.parts,s.mem++[⟨(Cd s.idx n).2.1,r⟩]⟩,true):=by
 rw [H8 hn] at h1 h4 ⊢
 have:=Xy hk
 exact G0 h1 h2 AB h4
theorem UR (h:SD s) (hk:Ab s=true) (hn:Ar n=true) (h1:(Cd s.idx n).2.2=false):Bb s n r=(Ai s,false):=by rw [Ha hk hn,h.copy]; exact YX h hn h1
theorem US (h:SD s) (hk:Ab s=true) (hn:Ar n=true) (h1:Be r=false):Bb s n r=(Ai s,false):=by rw [Ha hk hn,h.copy]; exact YY h hn h1
theorem UT (h:SD s) (hk:Ab s=true) (hn:Ar n=true) (h1:(s.mem.length:Int)=20):Bb s n r=(Ai s,false):=by rw [Ha hk hn,h.copy]; exact YZ h hn h1
theorem UU (h:SD s) (hk:Ab s=true) (hn:Ar n=true) (h1:(Cd s.idx n).2.2=true) (h2:Be r=true) (h3:(s.mem.length:Int)≠20)
 (h4:((rowsOf (⟨⟨(Cd s.idx n).1.names,(Cd s.idx n).1.AY⟩,(Ai s).parts,(Ai s).mem++[⟨(Cd s.idx n).2.1,r⟩]⟩:Sto) (Cd s.idx n).2.1).length:Int) > 24):Bb s n r=(Ai s,false):=by
 rw [Ha hk hn,h.copy]; exact Ya h hk hn h1 h2 h3 h4
theorem UW (h:SD s) (hk:Ab s=true) (hn:Ar n=true) (h1:(Cd s.idx n).2.2=true) (h2:Be r=true) (h3:(s.mem.length:Int)≠20)
 (h4:¬ ((rowsOf (⟨⟨(Cd s.idx n).1.names,(Cd s.idx n).1.AY⟩,(Ai s).parts,(Ai s).mem++[⟨(Cd s.idx n).2.1,r⟩]⟩:Sto) (Cd s.idx n).2.1).length:Int) > 24):Bb s n r=(⟨(Cd s.idx n).1,(Ai s).parts,(Ai s).mem++[⟨(Cd s.idx n).2.1,r⟩]⟩,true):=by
 have:=Yb h hk hn h1 h2 h3 h4
 rw [Ha hk hn,h.copy]
 exact this
theorem Wp {i:Int}(h:StoK s) (hr:Be r=true):∀ m∈(Ai s).mem++[⟨i,r⟩],Be m.row=true:=fun m hm=>by
 rcases List.mem_append.1 hm with hm | hm
 ·exact h.row m hm
 ·simp at hm; subst hm; exact hr
end
end Go.Proofs.YtckdhcbbgmiccaaGreatDoor
namespace Go.Proofs.YtckdhcbbgmiccaaGreatDoor
def nmB (names:List (List Tag)):Bool:=decide (names.length≤6)&&names.all Ar&&decide ((names.map text).Nodup)
theorem EU {names:List (List Tag)}:nmB names=true↔NmI names:=by
 unfold nmB
 simp only [AW,decide_eq_true_eq,List.all_eq_true]
 exact ⟨fun h=>⟨h.1.1,h.1.2,h.2⟩,fun h=>⟨⟨h.len,h.ok⟩,h.nodup⟩⟩
theorem UX {names:List (List Tag)}(h:¬ NmI names):nmB names=false:=by
 cases hb:nmB names with
 | false=>rfl
 | true=>exact absurd (EU.1 hb) h
structure NmG (names:List (List Tag)):Prop where
 len:names.length≤7
 nd:NsD names
 bl:(JT 0 [] names).length≤12
theorem NmG.of {names:List (List Tag)}(h:NmI names) (h2:NsD names):NmG names:=⟨by have:=h.len; omega,h2,UL h h2⟩
theorem NmG.sz {names:List (List Tag)}(h:NmG names):∀ n∈names,GI n:=fun n hn=>(h.nd n hn).sz
theorem NmG.l5 {names:List (List Tag)}(h:NmG names):∀ n∈names,n.length≤5:=fun n hn=>(h.nd n hn).1
theorem UY {names:List (List Tag)}(h:∀ (i j:Nat) (x y:List Tag),i< j→names[i]? = some x→names[j]? = some y→text x≠text y):(names.map text).Nodup:=by
 unfold List.Nodup
 rw [List.pairwise_iff_getElem]
 intro i j hi hj hij
 rw [List.getElem_map,List.getElem_map]
 exact h i j _ _ hij (AU _) (AU _)
def UZ (names:List (List Tag)) (k:Nat):Prop:=∀ j n,j< k→names[j]? = some n→Ar n=true∧Dw n 0 names=j
theorem Yc (names:List (List Tag)):UZ names 0:=fun j _ h=>absurd h AB
theorem S7 {names:List (List Tag)}{k:Nat}{n:List Tag}(h:UZ names k) (hn:names[k]? = some n) (h1:Ar n=true) (h2:Dw n 0 names+1=(k:Int)+1):UZ names (k+1):=fun j m hj hm=>by
 by_cases e:j=k
 ·subst e
  rw [hn] at hm
  cases hm
  exact ⟨h1,by omega⟩
 ·exact h j m AB hm
theorem Rv {names:List (List Tag)}{k:Nat}{n:List Tag}(hn:names[k]? = some n) (h:Ar n=false∨Dw n 0 names+1≠(k:Int)+1):false=nmB names:=(UX (fun hI=>Wh hI hn h)).symm
theorem Ua {names:List (List Tag)}{k:Nat}(h:UZ names k) (hk:names.length≤k):decide ((names.length:Int)≤6)=nmB names:=by
 unfold nmB
 have h1:names.all Ar=true:=List.all_eq_true.2 (fun n hn=>by
  obtain ⟨j,hj⟩:=List.mem_iff_getElem?.1 hn
  exact (h j n (by have:=(List.getElem?_eq_some_iff.1 hj).1; omega) hj).1)
 have h2:(names.map text).Nodup:=UY (fun i j x y hij hx hy e=>by
  have hj:=(List.getElem?_eq_some_iff.1 hy).1
  have a:=h i x AB hx
  have b:=h j y AB hy
  have:=Pe a.1 b.1 e
  subst this
  omega)
 rw [h1,decide_eq_true h2,Bool.and_true,Bool.and_true,decide_eq_decide]
 omega
def apart (names:List (List Tag)) (n:List Tag) (k:Nat):Prop:=∀ i m,i< k→names[i]? = some m→text n≠text m
theorem Wq {names:List (List Tag)}(h:(names.length:Int) > 6):false=nmB names:=(UX (fun hI=>by have:=hI.len; omega)).symm
structure IxG (x:Idx):Prop where
 g:NmG x.names
 eq:NmI x.names→x=idxOf x.names
theorem IxG.ix {x:Idx}(h:IxG x) (h2:NmI x.names):IxI x:=⟨h.eq h2,h2⟩
structure SG (s:Sto):Prop where
 ix:IxG s.idx
 np:s.parts.length≤7
 part:∀ p∈s.parts,PrtI p
 nm2:s.mem.length≤21
 mem:∀ m∈s.mem,0≤m.id∧m.id≤7∧PT m.row
theorem SG.pt {s:Sto}(h:SG s) (h3:s.parts.all (fun p=>Bv p s.idx.names.length)=true):∀ p∈s.parts,PrtI p∧Ay p=true:=fun p hp=>⟨h.part p hp,FR (List.all_eq_true.1 h3 p hp)⟩
theorem SG.of {s:Sto}(h:SD s):SG s:=⟨⟨NmG.of h.nm h.nd,fun _=>h.idx⟩,by have:=h.np; omega,h.part,h.nm2,h.mem⟩
theorem SG.sd {s:Sto}(h:SG s) (h2:nmB s.idx.names=true) (h3:s.parts.length≤6):SD s:=⟨h.ix.eq (EU.1 h2),EU.1 h2,h.ix.g.nd,h3,h.part,h.nm2,h.mem⟩
end Go.Proofs.YtckdhcbbgmiccaaGreatDoor
namespace Go.Proofs.YtckdhcbbgmiccaaGreatDoor
set_option maxRecDepth 100000
set_option maxHeartbeats 4000000
variable {w:World} {F:Nat→Prop} {a1 a2 a3 a4:Option Addr} {n1 c1 n2 c2 n3 c3 n4 c4:Nat}
theorem LG (names:List (List Tag)) (h1:RepS w F a1 n1 c1 names) (p0:NmG names):Calls Tryz.prog 146 [.slice a1 n1 c1].toArray w (Al fun rv w'=>rv=.bool (nmB names)∧Ext w w'):=by
 cases h1.len
 refine goT func146 ?_
 have Z:=(St.i0 F w).p h1
 have ag:=h1.max
 refine .s<|.g<|.r 1<|.d<|.s<|.s<|.g<|.r 3<|.d<|.b 0<|T.Lp (0:Nat) (fun k=>([(0,.slice a1 names.length c1),(5,.slice a1 names.length c1),(6,vI (names.length:Int)),(7,vI (k:Int))],[],[],names.length - k,(k≤names.length)∧(UZ names k))) [] Z ⟨AD,(by exact Yc _)⟩ ?_
 rintro k al w Z ⟨ah,ai⟩ aa
 refine .s<|.g<|.bp ((k:Int)< (names.length:Int)) (fun ac=>?_) (fun ac=>.d<|.s<|.cf<|.x 0 rfl<|.s<|.g<|.r 4<|.d<|T.rt func146 results146 (.bool (decide ((names.length:Int)≤6))) ⟨(AG (by exact Ua ‹_› AB)),Z.xt⟩)
 refine .d<|.s<|.ct<|.sk<|.s<|.b 1<|.s<|.g<|.r 1<|gx names k fun ab E=>RG.Ix 0 E Z<|Z.el 0 E fun am ao Z=>RG.Lh 0 0 Z<|.r 2<|.d<|.s<|.g<|.r 1<|RG.C0 (Dv ab (Z.a 1)) Z fun w Z=>?_
 cases ak:(Ar ab)
 ·exact .r 9<|.d<|.ct<|.s<|.g<|.r 1<|.d<|T.rt func146 results146 (.bool false) ⟨(AG (by exact Rv ‹_› (.inl ‹_›))),Z.xt⟩
 exact .r 4<|RG.C0 (HD names ab (Z.a 2) (Z.a 1)) Z fun w Z=>.r 1<|.it ((k:Int)+1)<|.ne (Dw ab 0 names+1) ((k:Int)+1) (fun ae=>.r 1<|.d<|.ct<|.s<|.g<|.r 1<|.d<|T.rt func146 results146 (.bool false) ⟨(AG (by exact Rv ‹_› (.inr ‹_›))),Z.xt⟩) fun ae=>.r 1<|.d<|.cf<|.sk<|.ib 1<|.g<|.it ((k:Int)+1)<|.r 1<|.d<|aa (k+1) _ _ AA (Z.to 0 [] 2) ⟨AB,(by exact S7 ‹_› ‹_› ‹_› ‹_›)⟩ (by (simp only []; omega))
theorem HF (ix:Idx) (h1:RepS w F a1 n1 c1 ix.names) (h2:RepS w F a2 n2 c2 ix.AY) (p0:IxG ix):Calls Tryz.prog 79 [.agg #[.slice a1 n1 c1,.slice a2 n2 c2]].toArray w (Al fun rv w'=>rv=.bool (nmB ix.names)∧Ext w w'):=by
 cases h1.len
 cases h2.len
 refine goT func79 ?_
 have Z:=((St.i0 F w).p h1).p h2
 refine .s<|.g<|RG.Np Z fun ac w Z=>.r 1<|.d<|.s<|T.Gd 10 Z fun w Z=>.r [0]<|GA.Lb 1 0 Z<|GA.C0 2 Z (fun w Z=>LG ix.names (Z.a 1) p0.g) ?_
 cases ab:(nmB ix.names)
 ·exact .r [3]<|GA.Sk Z fun w Z=>.r 3<|.d<|T.rt func79 results79 (.bool false) ⟨(AG AF),Z.xt⟩
 exact .r [3,4]<|GA.Lb 5 0 Z<|.r [6]<|GA.Lb 7 0 Z<|.go 8<|GE.CS (fun w Z=>CM ix.names (Z.a 1) (EU.1 ‹_›) p0.g.nd) Z fun ae af ag ah w Z=>.r [9]<|GA.Dn Z fun w Z=>RG.C0 (JS ix.AY ((idxOf ix.names).AY) (Z.a 2) (Z.a 1)) Z fun w Z=>.r 2<|.d<|T.rt func79 results79 (.bool (ix.AY==((idxOf ix.names).AY))) ⟨(AG (by (have p9:=p0.ix (EU.1 ‹_›); rw [p9.AY]; simp [idxOf]; done))),Z.xt⟩
theorem FA (s:Sto) (h1:RepS w F a1 n1 c1 s.idx.names) (h2:RepS w F a2 n2 c2 s.idx.AY) (h3:RepS w F a3 n3 c3 s.parts) (h4:RepS w F a4 n4 c4 s.mem) (p0:SG s):Calls Tryz.prog 39 [.agg #[.slice a1 n1 c1,.slice a2 n2 c2,.slice a3 n3 c3,.slice a4 n4 c4]].toArray w (Al fun rv w'=>rv=.bool (nmB s.idx.names&&Ab s)∧Ext w w'):=by
 cases h1.len
 cases h2.len
 cases h3.len
 cases h4.len
 refine goT func39 ?_
 have Z:=((((St.i0 F w).p h1).p h2).p h3).p h4
 have aA:=h1.max
 have aC:=h3.max
 have aD:=h4.max
 refine .s<|.g<|RG.Np Z fun ai w Z=>.r 1<|.d<|.s<|.s<|.g<|.r 1<|RG.Ln 0 Z<|RG.C0 (HF s.idx (Z.a 3) (Z.a 2) p0.ix) Z fun w Z=>?_
 cases aE:(nmB s.idx.names)
 ·exact .r 13<|.d<|.ct<|.s<|.g<|.r 1<|.d<|T.rt func39 results39 (.bool false) ⟨(AG AF),Z.xt⟩
 refine .r 3<|RG.Lb 0 Z<|.r 1<|.bp ((s.parts.length:Int) > 6) (fun aj=>.r 7<|.d<|.ct<|.s<|.g<|.r 1<|.d<|T.rt func39 results39 (.bool false) ⟨(AG (by (rw [Bool.true_and]; symm; exact Nc AB))),Z.xt⟩) fun aj=>.r 3<|RG.Lb 0 Z<|.r 1<|.bp ((s.mem.length:Int) > 20) (fun ak=>.r 1<|.d<|.ct<|.s<|.g<|.r 1<|.d<|T.rt func39 results39 (.bool false) ⟨(AG (by (rw [Bool.true_and]; symm; exact Nc AB))),Z.xt⟩) fun ak=>.r 1<|.d<|.cf<|.sk<|.s<|.g<|.r 2<|RG.Lb 0 Z<|.r 2<|.d<|.s<|.s<|.g<|.r 1<|RG.Lb 0 Z<|.r 2<|.d<|.b 0<|T.Lp (0:Nat) (fun k=>([(1,vP ai),(3,vI (s.idx.names.length:Int)),(30,.slice a3 s.parts.length c3),(31,vI (s.parts.length:Int)),(32,vI (k:Int))],[],[],s.parts.length - k,(k≤s.parts.length)∧((s.parts.drop k).all (fun p=>Bv p s.idx.names.length)=s.parts.all (fun p=>Bv p s.idx.names.length))∧(nmB s.idx.names=true))) [] Z ⟨AD,AF,‹_›⟩ ?_
 rintro k aY w Z ⟨aF,aG,aH⟩ ab
 refine .s<|.g<|.bp ((k:Int)< (s.parts.length:Int)) (fun al=>?_) (fun al=>?_)
 ·refine .d<|.s<|.ct<|.sk<|.s<|.b 1<|.s<|.g<|gxd s.parts k fun ac E aI=>RG.Ix 1 E Z<|Z.el 1 E fun aZ ba bd bg Z=>RG.Lg 0 0 Z<|RG.Np Z fun bh w Z=>RG.Ss 0 Z fun w Z=>.d<|.s<|.g<|RG.Ln 0 Z<|RG.C0 (DM ac (Z.a 1) (Z.a 2)) Z fun w Z=>?_
  cases aJ:(Ay ac)
  ·exact .r 14<|.d<|.ct<|.s<|.g<|.r 1<|.d<|T.rt func39 results39 (.bool false) ⟨(AG (by (rw [Bool.true_and]; symm; exact KH (JN ‹_› ‹_› (by exact UN ‹_›))))),Z.xt⟩
  exact .r 3<|RG.Lb 0 Z<|.r 1<|.eq (ac.ids.length:Int) 0 (fun am=>.r 8<|.d<|.ct<|.s<|.g<|.r 1<|.d<|T.rt func39 results39 (.bool false) ⟨(AG (by (rw [Bool.true_and]; symm; exact KH (JN ‹_› ‹_› (by exact UO ‹_›))))),Z.xt⟩) fun am=>.r 3<|RG.Lb 0 Z<|RG.C0 (HV ac.ids (Z.a 1) AB) Z fun w Z=>.r 1<|.bp (maxOf ac.ids > (s.idx.names.length:Int)) (fun ao=>.r 1<|.d<|.ct<|.s<|.g<|.r 1<|.d<|T.rt func39 results39 (.bool false) ⟨(AG (by (rw [Bool.true_and]; symm; exact KH (JN ‹_› ‹_› (by exact UP ‹_› ‹_› ‹_›))))),Z.xt⟩) fun ao=>.r 1<|.d<|.cf<|.sk<|.ib 1<|.g<|RG.int ((k:Int)+1) AA (by have:=p0.ix.g.len; omega)<|.r 1<|.d<|ab (k+1) _ _ AA (Z.to 1 [] 3) ⟨AB,(by exact H6 ‹_› ‹_› (UQ ‹_› ‹_› ‹_›)),‹_›⟩ (by (simp only []; omega))
 refine .d<|.s<|.cf<|.x 0 rfl<|.s<|.s<|.g<|.r 1<|RG.Lb 0 Z<|.r 2<|.d<|.b 2<|T.Lp (0:Nat) (fun k=>([(1,vP ai),(3,vI (s.idx.names.length:Int)),(54,.slice a4 s.mem.length c4),(55,vI (s.mem.length:Int)),(56,vI (k:Int))],[],[],s.mem.length - k,(k≤s.mem.length)∧(s.parts.all (fun p=>Bv p s.idx.names.length)=true)∧((s.mem.drop k).all (FE s.idx.names.length)=s.mem.all (FE s.idx.names.length))∧(nmB s.idx.names=true))) [] Z ⟨AD,(by exact KG ‹_› AB),AD,‹_›⟩ ?_
 rintro k bi w Z ⟨aK,aL,aM,aN⟩ ae
 refine .s<|.g<|.bp ((k:Int)< (s.mem.length:Int)) (fun aq=>?_) (fun aq=>?_)
 ·refine .d<|.s<|.ct<|.sk<|.s<|.b 3<|.s<|.g<|gxd s.mem k fun ag aa aO=>RG.Ix 0 aa Z<|Z.el 0 aa fun Z=>RG.Lg 0 0 Z<|RG.Np Z fun bj w Z=>RG.Ss 0 Z fun w Z=>.d<|.s<|.g<|.r 1<|RG.Lb 0 Z<|.r 1<|RG.C0 (Bp ag.id 1 (s.idx.names.length:Int) (F:=all)) Z fun w Z=>?_
  cases ah:(inR ag.id 1 (s.idx.names.length:Int))
  ·exact .r 7<|.d<|.ct<|.s<|.g<|.r 1<|.d<|T.rt func39 results39 (.bool false) ⟨(AG (by (rw [Bool.true_and]; symm; exact Nd (JN ‹_› ‹_› (by simp [FE, *]))))),Z.xt⟩
  refine .r 3<|RG.Ln 0 Z<|RG.C0 (Gt ag.row (F:=all)) Z fun w Z=>?_
  cases aR:(Be ag.row)
  ·exact .r 2<|.d<|.ct<|.s<|.g<|.r 1<|.d<|T.rt func39 results39 (.bool false) ⟨(AG (by (rw [Bool.true_and]; symm; exact Nd (JN ‹_› ‹_› (by simp [FE, *]))))),Z.xt⟩
  exact .r 2<|.d<|.cf<|.sk<|.ib 3<|.g<|RG.int ((k:Int)+1) AA (by have:=p0.ix.g.len; omega)<|.r 1<|.d<|ae (k+1) _ _ AA (Z.to 1 [] 1) ⟨AB,‹_›,(by exact H6 ‹_› ‹_› (by simp only [FE, *]; rfl)),‹_›⟩ (by (simp only []; omega))
 refine .d<|.s<|.cf<|.x 2 rfl<|.s<|.s<|.g<|.r 1<|.d<|.b 4<|T.Lp (1:Nat) (fun k=>([(1,vP ai),(3,vI (s.idx.names.length:Int)),(8,vI (k:Int))],[],[],s.idx.names.length+1 - k,(1≤k)∧(k≤s.idx.names.length+1)∧(s.parts.all (fun p=>Bv p s.idx.names.length)=true)∧(s.mem.all (FE s.idx.names.length)=true)∧(((List.range s.idx.names.length).drop (k - 1)).all (FF s)=(List.range s.idx.names.length).all (FF s))∧(nmB s.idx.names=true))) [] Z ⟨AB,AB,‹_›,(by exact KG ‹_› AB),AF,‹_›⟩ ?_
 rintro k bk w Z ⟨aS,aT,aU,aV,aW,aX⟩ af
 exact .s<|.s<|.g<|.r 2<|.bp ((k:Int)≤(s.idx.names.length:Int)) (fun ar=>.d<|.ct<|.sk<|.s<|.b 5<|.s<|.g<|RG.Ln 0 Z<|.r 1<|RG.CL (DW s (k:Int) (Z.a 3) (Z.a 2) (Z.a 1) (Z.a 0) (SG.pt p0 ‹_›) (StoK.rw ‹_›) (by have:=p0.np; omega) (by have:=p0.nm2; omega)) Z fun bm bn w Z=>.r 1<|.bp ((((rowsOf s (k:Int)).length):Int) > 24) (fun ax=>.d<|.ct<|.s<|.g<|.r 1<|.d<|T.rt func39 results39 (.bool false) ⟨(AG (by (rw [Bool.true_and]; symm; exact Sz (Zk ‹_› AB AB AB)))),Z.xt⟩) fun ax=>.d<|.cf<|.sk<|.ib 5<|.g<|.r 1<|RG.int ((k:Int)+1) AA (by have:=p0.ix.g.len; omega)<|.r 1<|.d<|af (k+1) _ _ AA (Z.to 0 [] 1) ⟨AB,AB,‹_›,‹_›,(by exact WU ‹_› AB AB AB),‹_›⟩ (by (simp only []; omega))) fun ar=>.d<|.cf<|.x 4 rfl<|.s<|.g<|.r 1<|.d<|T.rt func39 results39 (.bool true) ⟨(AG (by rw [Bool.true_and]; symm; exact S0 AB AB ‹_› ‹_› (YR ‹_› AB))),Z.xt⟩
end Go.Proofs.YtckdhcbbgmiccaaGreatDoor
namespace Go.Proofs.YtckdhcbbgmiccaaGreatDoor
set_option maxRecDepth 100000
set_option maxHeartbeats 4000000
variable {w:World} {F:Nat→Prop} {a1 a2 a3 a4:Option Addr} {n1 c1 n2 c2 n3 c3 n4 c4:Nat}
theorem Hf (ix:Idx) (h1:RepS w F a1 n1 c1 ix.names) (h2:RepS w F a2 n2 c2 ix.AY) (p0:IxI ix) (p1:NsD ix.names):Calls Tryz.prog 79 [.agg #[.slice a1 n1 c1,.slice a2 n2 c2]].toArray w (Al fun rv w'=>rv=.bool (true)∧Ext w w'):=by
 refine (HF ix h1 h2 ⟨NmG.of p0.nm p1,fun _=>p0.eq⟩).mono ?_
 rintro e w' ⟨v,rfl,hv,hx⟩
 exact ⟨v,rfl,by rw [hv,EU.2 p0.nm],hx⟩
theorem EV (s:Sto) (h1:RepS w F a1 n1 c1 s.idx.names) (h2:RepS w F a2 n2 c2 s.idx.AY) (h3:RepS w F a3 n3 c3 s.parts) (h4:RepS w F a4 n4 c4 s.mem) (p0:SD s):Calls Tryz.prog 39 [.agg #[.slice a1 n1 c1,.slice a2 n2 c2,.slice a3 n3 c3,.slice a4 n4 c4]].toArray w (Al fun rv w'=>rv=.bool (Ab s)∧Ext w w'):=by
 refine (FA s h1 h2 h3 h4 (SG.of p0)).mono ?_
 rintro e w' ⟨v,rfl,hv,hx⟩
 exact ⟨v,rfl,by rw [hv,EU.2 p0.nm,Bool.true_and],hx⟩
end Go.Proofs.YtckdhcbbgmiccaaGreatDoor
namespace Go.Proofs.YtckdhcbbgmiccaaGreatDoor
set_option maxRecDepth 100000
set_option maxHeartbeats 4000000
variable {w:World} {F:Nat→Prop} {a1 a2 a3 a4 a5:Option Addr} {n1 c1 n2 c2 n3 c3 n4 c4 n5 c5:Nat}
theorem LH (ix:Idx) (n:List Tag) (h1:RepS w F a1 n1 c1 ix.names) (h2:RepS w F a2 n2 c2 ix.AY) (h3:RepS w F a3 n3 c3 n) (p0:IxI ix) (p1:NsD ix.names) (p2:NmD n):Calls Tryz.prog 119 [.agg #[.slice a1 n1 c1,.slice a2 n2 c2],.slice a3 n3 c3].toArray w (Al fun rv w'=>(∃ v0,rv=.tuple #[v0,.int .i64 ((Cd ix n).2.1),.bool ((Cd ix n).2.2)]∧VS (fo F w.heap.size) w' ((Cd ix n).1:Idx) v0)∧Ext w w'):=by
 cases h1.len
 cases h2.len
 cases h3.len
 refine goT func119 ?_
 have Z:=(((St.i0 F w).p h1).p h2).p h3
 have ac:=h1.max
 refine .s<|.g<|RG.Np Z fun ab w Z=>RG.Np Z fun ah w Z=>.r 2<|.d<|.s<|.s<|.g<|RG.Ln 1 Z<|RG.C0 (Hf ix (Z.a 2) (Z.a 1) p0 p1) Z fun w Z=>.r 3<|RG.C0 (Dv n (Z.a 0)) Z fun w Z=>?_
 cases ag:(Ar n)
 ·refine .r 2<|.d<|.ct<|.s<|.g<|.r 1<|RG.Ss 0 Z fun w Z=>.r 2<|.d ?_
  have Z:=(Z.nl (List Tag)).nl Pst
  exact T.r3 func119 results119 (.B 0 Z) (.t (vI 0)) (.t (.bool false)) ⟨⟨_,(K7 rfl (congrArg (Value.int .i64) (by rw [Oc ‹_›])) (AG (by rw [Oc ‹_›]))),Z.rS (g:=1) (⟨([]:List (List Tag)),([]:List Pst)⟩:Idx) [1,0] (by rw [Oc ‹_›])⟩,Z.xt⟩
 refine .r 2<|.d<|.cf<|.sk<|.s<|.s<|.g<|.r 1<|RG.Lb 1 Z<|.r 1<|RG.C0 (HD ix.names n (Z.a 2) (Z.a 0)) Z fun w Z=>.r 1<|.d<|.s<|.g<|.r 1<|.bp ((Dw n 0 ix.names+1) > 0) (fun E=>.d<|.ct<|.s<|.g<|.r 1<|RG.Lb 1 Z<|RG.CS (CM ix.names (Z.a 2) (by exact p0.nm) (by exact p1)) Z fun ai aj ak al w Z=>.r 1<|RG.Ss 0 Z fun w Z=>.r 2<|.d<|T.r3 func119 results119 (.B 0 Z) (.t (vI (Dw n 0 ix.names+1))) (.t (.bool true)) ⟨⟨_,(K7 rfl (congrArg (Value.int .i64) (by (rw [MN p0 ‹_› ‹_›]; done))) (AG (by (rw [MN p0 ‹_› ‹_›]; done)))),Z.rS (g:=1) (idxOf ix.names) [0,1] (by (rw [MN p0 ‹_› ‹_›]; done))⟩,Z.xt⟩) fun E=>.d<|.cf<|.sk<|.s<|.s<|.g<|.r 1<|RG.Lb 1 Z<|.r 1<|.eq (ix.names.length:Int) 6 (fun aa=>.d<|.ct<|.s<|.g<|.r 1<|RG.Lb 1 Z<|RG.CS (CM ix.names (Z.a 2) (by exact p0.nm) (by exact p1)) Z fun am ao aq ar w Z=>RG.Ss 0 Z fun w Z=>.r 2<|.d<|T.r3 func119 results119 (.B 0 Z) (.t (vI 0)) (.t (.bool false)) ⟨⟨_,(K7 rfl (congrArg (Value.int .i64) (by (rw [KR p0 ‹_› ‹_› ‹_›]; done))) (AG (by (rw [KR p0 ‹_› ‹_› ‹_›]; done)))),Z.rS (g:=1) (idxOf ix.names) [0,1] (by (rw [KR p0 ‹_› ‹_› ‹_›]; done))⟩,Z.xt⟩) fun aa=>.d<|.cf<|.sk<|.s<|T.GS 12 [ab] Z fun _ w Z=>.r [0]<|GA.Lb 1 1 Z<|.r [3,7]<|GA.Lb 8 1 Z<|.r [9]<|GA.int (i:=10) ((ix.names.length:Int)+1) AA (by have:=p0.nm.len; omega)<|.tw 2 4 ?_ ?_
 ·exact GE.CO 1 (fun w Z=>Af ix.names (Z.a 2) (by have:=p0.nm.len; omega) (fun n hn=>by have:=(p0.nm.sz n hn).1; omega)) Z fun ax ay w Z=>.go 4<|GE.Nb 1 Z fun az w Z=>.go 5<|GE.Ap (hs:=by exact (by have:=p0.nm.len; omega)) 0 0 ix.names n [0] [2] Z fun aA aB w Z=>.go 6<|GE.CS (fun w Z=>CM (ix.names++[n]) (Z.oa 0) (by exact NmI.Zt p0 ‹_› ‹_› ‹_›) (by exact p1.add p2)) Z fun aC aD aE aF w Z=>.go 11<|GE.Ss 1 [2] Z fun w Z=>GA.Do Z fun w Z=>.r 2<|.d<|T.r3 func119 results119 (.B 1 Z) (.t (vI ((ix.names.length:Int)+1))) (.t (.bool true)) ⟨⟨_,(K7 rfl (congrArg (Value.int .i64) (by (rw [Gh p0 ‹_› ‹_› ‹_›]; done))) (AG (by (rw [Gh p0 ‹_› ‹_› ‹_›]; done)))),Z.rS (g:=1) (idxOf (ix.names++[n])) [0,1] (by (rw [Gh p0 ‹_› ‹_› ‹_›]; done))⟩,Z.xt⟩
 exact GE.Nb 1 Z fun aG w Z=>.go 2<|GE.CO 1 (fun w Z=>Af ix.names (Z.a 2) (by have:=p0.nm.len; omega) (fun n hn=>by have:=(p0.nm.sz n hn).1; omega)) Z fun aH aI w Z=>.go 5<|GE.Ap (hs:=by exact (by have:=p0.nm.len; omega)) 0 1 ix.names n [0] [2] Z fun aJ aK w Z=>.go 6<|GE.CS (fun w Z=>CM (ix.names++[n]) (Z.oa 0) (by exact NmI.Zt p0 ‹_› ‹_› ‹_›) (by exact p1.add p2)) Z fun aL aM aN aO w Z=>.go 11<|GE.Ss 1 [2] Z fun w Z=>GA.Do Z fun w Z=>.r 2<|.d<|T.r3 func119 results119 (.B 1 Z) (.t (vI ((ix.names.length:Int)+1))) (.t (.bool true)) ⟨⟨_,(K7 rfl (congrArg (Value.int .i64) (by (rw [Gh p0 ‹_› ‹_› ‹_›]; done))) (AG (by (rw [Gh p0 ‹_› ‹_› ‹_›]; done)))),Z.rS (g:=1) (idxOf (ix.names++[n])) [0,1] (by (rw [Gh p0 ‹_› ‹_› ‹_›]; done))⟩,Z.xt⟩
theorem F7 (s:Sto) (h1:RepS w F a1 n1 c1 s.idx.names) (h2:RepS w F a2 n2 c2 s.idx.AY) (h3:RepS w F a3 n3 c3 s.parts) (h4:RepS w F a4 n4 c4 s.mem) (p0:NmI s.idx.names) (p1:NsD s.idx.names) (p2:NS s):Calls Tryz.prog 29 [.agg #[.slice a1 n1 c1,.slice a2 n2 c2,.slice a3 n3 c3,.slice a4 n4 c4]].toArray w (Al fun rv w'=>(∃ (a0:Option Addr) (n0 c0:Nat) (a1:Option Addr) (n1 c1:Nat) (a2:Option Addr) (n2 c2:Nat) (r3 n3 c3:Nat),rv=.agg #[.slice a0 n0 c0,.slice a1 n1 c1,.slice a2 n2 c2,.slice (some ⟨r3,0,none⟩) n3 c3]∧RepS w' (nin (ge w.heap.size) [r3]) a0 n0 c0 ((((Ai s)).idx).names)∧RepS w' (nin (ge w.heap.size) [r3]) a1 n1 c1 ((((Ai s)).idx).AY)∧RepS w' (nin (ge w.heap.size) [r3]) a2 n2 c2 (((Ai s)).parts)∧Own w' r3 128 (nin (ge w.heap.size) [r3]) n3 c3 (((Ai s)).mem)∧w.heap.size≤r3)∧Ext w w'):=by
 cases h1.len
 cases h2.len
 cases h3.len
 cases h4.len
 refine goT func29 ?_
 have Z:=((((St.i0 F w).p h1).p h2).p h3).p h4
 have aF:=h3.max
 have aG:=h4.max
 refine .s<|.g<|RG.Np Z fun ae w Z=>RG.Np Z fun af w Z=>.d<|.s<|T.GS 10 [af,ae] Z fun _ w Z=>.r [0,1]<|GA.Lb (q:=1) 2 1 Z<|.r [4]<|GA.Lb (q:=1) 5 1 Z<|.r [8]<|GA.Lb (q:=1) 9 1 Z<|.tw 3 7 ?_ ?_
 ·refine GE.CS (fun w Z=>CM s.idx.names (Z.a 3) p0 p1) Z fun E aa ab ac w Z=>.tw 6 7 ?_ ?_
  ·refine GE.CO 0 (fun w Z=>CZ s.parts (Z.a 3) (by have:=p2.2.1; omega) p2.2.2.1) Z fun ag ah w Z=>.go 7<|GE.N0 Smp 0 Z fun aH w Z=>GA.Do Z fun w Z=>RG.An (hs:=by (simp only [List.nil_append,List.length_nil,List.length_append,List.length_cons] <;> exact (by have:=p2.2.2.2; omega))) (hf:=.inr E0) 0 2 ([]:List Smp) s.mem Z fun ai aj w Z=>.r 1<|RG.Ss 2 Z fun w Z=>.d ?_
   have Z:=Z.sl 1
   exact T.Rb 1 func29 results29 Z ⟨⟨E,((idxOf s.idx.names).names.length),aa,ab,((idxOf s.idx.names).AY.length),ac,(some ⟨ag,0,none⟩),s.parts.length,ah,ai,(([]++s.mem).length),aj,AA,Z.qr [0] 1 ((idxOf s.idx.names).names) AF,Z.qr [0] 2 ((idxOf s.idx.names).AY) AF,Z.qr [0] 0 s.parts AF,Z.qo [0] 0 ([]++s.mem) AF,Z.qb 0⟩,Z.xt⟩
  refine GE.N0 Smp 0 Z fun aI w Z=>.go 6<|GE.CO 0 (fun w Z=>CZ s.parts (Z.a 3) (by have:=p2.2.1; omega) p2.2.2.1) Z fun ak al w Z=>GA.Do Z fun w Z=>RG.An (hs:=by (simp only [List.nil_append,List.length_nil,List.length_append,List.length_cons] <;> exact (by have:=p2.2.2.2; omega))) (hf:=.inr E0) 1 2 ([]:List Smp) s.mem Z fun am ao w Z=>.r 1<|RG.Ss 2 Z fun w Z=>.d ?_
  have Z:=Z.sl 0
  exact T.Rb 1 func29 results29 Z ⟨⟨E,((idxOf s.idx.names).names.length),aa,ab,((idxOf s.idx.names).AY.length),ac,(some ⟨ak,0,none⟩),s.parts.length,al,am,(([]++s.mem).length),ao,AA,Z.qr [0] 1 ((idxOf s.idx.names).names) AF,Z.qr [0] 2 ((idxOf s.idx.names).AY) AF,Z.qr [0] 0 s.parts AF,Z.qo [0] 0 ([]++s.mem) AF,Z.qb 0⟩,Z.xt⟩
 refine GE.N0 Smp 0 Z fun aJ w Z=>.go 3<|GE.CS (fun w Z=>CM s.idx.names (Z.a 3) p0 p1) Z fun aq ar ax ay w Z=>.go 6<|GE.CO 0 (fun w Z=>CZ s.parts (Z.a 3) (by have:=p2.2.1; omega) p2.2.2.1) Z fun az aA w Z=>GA.Do Z fun w Z=>RG.An (hs:=by (simp only [List.nil_append,List.length_nil,List.length_append,List.length_cons] <;> exact (by have:=p2.2.2.2; omega))) (hf:=.inr E0) 1 2 ([]:List Smp) s.mem Z fun aB aC w Z=>.r 1<|RG.Ss 2 Z fun w Z=>.d ?_
 have Z:=Z.sl 0
 exact T.Rb 1 func29 results29 Z ⟨⟨aq,((idxOf s.idx.names).names.length),ar,ax,((idxOf s.idx.names).AY.length),ay,(some ⟨az,0,none⟩),s.parts.length,aA,aB,(([]++s.mem).length),aC,AA,Z.qr [0] 1 ((idxOf s.idx.names).names) AF,Z.qr [0] 2 ((idxOf s.idx.names).AY) AF,Z.qr [0] 0 s.parts AF,Z.qo [0] 0 ([]++s.mem) AF,Z.qb 0⟩,Z.xt⟩
theorem HG (s:Sto) (n:List Tag) (r:Row) (h1:RepS w F a1 n1 c1 s.idx.names) (h2:RepS w F a2 n2 c2 s.idx.AY) (h3:RepS w F a3 n3 c3 s.parts) (h4:RepS w F a4 n4 c4 s.mem) (h5:RepS w F a5 n5 c5 n) (p0:SD s) (p1:NmD n):Calls Tryz.prog 62 [.agg #[.slice a1 n1 c1,.slice a2 n2 c2,.slice a3 n3 c3,.slice a4 n4 c4],.slice a5 n5 c5,.agg #[.int .i64 r.t,.int .i64 r.v]].toArray w (Al fun rv w'=>(∃ v0,rv=.tuple #[v0,.bool ((Bb s n r).2)]∧VS (fo F w.heap.size) w' ((Bb s n r).1:Sto) v0)∧Ext w w'):=by
 cases h1.len
 cases h2.len
 cases h3.len
 cases h4.len
 cases h5.len
 refine goT func62 ?_
 have Z:=(((((St.i0 F w).p h1).p h2).p h3).p h4).p h5
 have aP:=h4.max
 refine .s<|.g<|RG.Np Z fun aV w Z=>RG.Np Z fun aW w Z=>RG.Np Z fun aX w Z=>.r 1<|.d<|.s<|.s<|.g<|RG.Ln 2 Z<|RG.C0 (EV s (Z.a 4) (Z.a 3) (Z.a 2) (Z.a 1) p0) Z fun w Z=>?_
 cases aR:(Ab s)
 ·refine .r 6<|.d<|.ct<|.s<|.g<|.r 1<|RG.Ss 0 Z fun w Z=>.r 1<|.d ?_
  have Z:=(((Z.nl (List Tag)).nl Pst).nl Prt).nl Smp
  exact T.r2 func62 results62 (.B 0 Z) (.t (.bool false)) ⟨⟨_,(Bk rfl (AG (by exact (congrArg Prod.snd (Ld (.inl ‹_›))).symm))),Z.rS (g:=1) (⟨(⟨([]:List (List Tag)),([]:List Pst)⟩:Idx),([]:List Prt),([]:List Smp)⟩:Sto) [3,2,1,0] (by exact (congrArg Prod.fst (Ld (.inl ‹_›))).symm)⟩,Z.xt⟩
 refine .r 3<|RG.C0 (Dv n (Z.a 0)) Z fun w Z=>?_
 cases aS:(Ar n)
 ·refine .r 2<|.d<|.ct<|.s<|.g<|.r 1<|RG.Ss 0 Z fun w Z=>.r 1<|.d ?_
  have Z:=(((Z.nl (List Tag)).nl Pst).nl Prt).nl Smp
  exact T.r2 func62 results62 (.B 0 Z) (.t (.bool false)) ⟨⟨_,(Bk rfl (AG (by exact (congrArg Prod.snd (Ld (.inr ‹_›))).symm))),Z.rS (g:=1) (⟨(⟨([]:List (List Tag)),([]:List Pst)⟩:Idx),([]:List Prt),([]:List Smp)⟩:Sto) [3,2,1,0] (by exact (congrArg Prod.fst (Ld (.inr ‹_›))).symm)⟩,Z.xt⟩
 refine .r 2<|.d<|.cf<|.sk<|.s<|.g<|RG.Ln 2 Z<|RG.cl (F7 s (Z.a 4) (Z.a 3) (Z.a 2) (Z.a 1) p0.nm p0.nd p0.sz) ?_
 rintro _ w ⟨⟨ar,aY,ax,ay,aZ,az,aA,ba,aB,aC,bd,aD,rfl,ab,ac,ae,E,af⟩,ag⟩
 cases ab.len
 cases ac.len
 cases ae.len
 cases E.len
 have Z:=Z.so ag [.own 0 aC 128 aD (((Ai s)).mem)] [.rep ar ax ((((Ai s)).idx).names),.rep ay az ((((Ai s)).idx).AY),.rep aA aB (((Ai s)).parts)] nd1 (oN E af o0) (fc ab (fc ac (fc ae fn_)))
 refine RG.Np Z fun bg w Z=>RG.Ss 0 Z fun w Z=>.d<|.s<|.g<|.r 1<|RG.Ln 4 Z<|.r 1<|RG.CT (us:=[vI ((Cd s.idx n).2.1),.bool ((Cd s.idx n).2.2)]) (LH s.idx n (Z.mg 1 7) (Z.mg 1 6) (Z.mg 1 3) p0.ix p0.nd p1) Z fun bh bi bj bk w Z=>.r 3 ?_
 cases aT:(Cd s.idx n).2.2
 ·refine .r 1<|RG.Np Z fun bm w Z=>RG.Ss 0 Z fun w Z=>.r 2<|.d<|.s<|.s<|.g<|.r 13<|.d<|.ct<|.s<|.g<|RG.Ln 1 Z<|RG.Ss 3 Z fun w Z=>.r 1<|.d ?_
  have Z:=Z.sl 2
  exact T.r2 func62 results62 (.B 2 Z) (.t (.bool false)) ⟨⟨_,(Bk rfl (AG (by exact (congrArg Prod.snd (UR p0 ‹_› ‹_› ‹_›)).symm))),Z.rS (g:=1) (⟨(⟨(((Ai s)).idx).names,(((Ai s)).idx).AY⟩:Idx),((Ai s)).parts,((Ai s)).mem⟩:Sto) [3,4,5,0] (by exact (congrArg Prod.fst (UR p0 ‹_› ‹_› ‹_›)).symm)⟩,Z.xt⟩
 refine .r 1<|RG.Np Z fun bn w Z=>RG.Ss 0 Z fun w Z=>.r 2<|.d<|.s<|.s<|.g<|.r 3<|RG.Ln 4 Z<|RG.C0 (Gt r (F:=all)) Z fun w Z=>?_
 cases aU:(Be r)
 ·refine .r 8<|.d<|.ct<|.s<|.g<|RG.Ln 1 Z<|RG.Ss 3 Z fun w Z=>.r 1<|.d ?_
  have Z:=Z.sl 2
  exact T.r2 func62 results62 (.B 2 Z) (.t (.bool false)) ⟨⟨_,(Bk rfl (AG (by exact (congrArg Prod.snd (US p0 ‹_› ‹_› ‹_›)).symm))),Z.rS (g:=1) (⟨(⟨(((Ai s)).idx).names,(((Ai s)).idx).AY⟩:Idx),((Ai s)).parts,((Ai s)).mem⟩:Sto) [3,4,5,0] (by exact (congrArg Prod.fst (US p0 ‹_› ‹_› ‹_›)).symm)⟩,Z.xt⟩
 refine .r 4<|RG.Lb 5 Z<|.r 1<|.eq (s.mem.length:Int) 20 (fun ah=>?_) (fun ah=>?_)
 ·refine .r 1<|.d<|.ct<|.s<|.g<|RG.Ln 1 Z<|RG.Ss 3 Z fun w Z=>.r 1<|.d ?_
  have Z:=Z.sl 2
  exact T.r2 func62 results62 (.B 2 Z) (.t (.bool false)) ⟨⟨_,(Bk rfl (AG (by exact (congrArg Prod.snd (UT p0 ‹_› ‹_› ‹_›)).symm))),Z.rS (g:=1) (⟨(⟨(((Ai s)).idx).names,(((Ai s)).idx).AY⟩:Idx),((Ai s)).parts,((Ai s)).mem⟩:Sto) [3,4,5,0] (by exact (congrArg Prod.fst (UT p0 ‹_› ‹_› ‹_›)).symm)⟩,Z.xt⟩
 refine .r 1<|.d<|.cf<|.sk<|.s<|.g<|RG.Ln 0 Z<|.r 1<|RG.Ss 1 Z fun w Z=>.d<|.s<|.g<|.r 1<|RG.Lb 1 Z<|.r 1<|RG.Ln 4 Z<|.r 1<|RG.Nb 1 Z fun bo w Z=>RG.Ap (hs:=by exact (by have q1:=p0.nm2; have q2:(Ai s).mem.length=s.mem.length:=rfl; omega)) 2 0 (((Ai s)).mem) (⟨(Cd s.idx n).2.1,(⟨r.t,r.v⟩:Row)⟩:Smp) [] Z fun br bt w Z=>.r 1<|RG.Ss 1 Z fun w Z=>.d<|.s<|.s<|.g<|RG.Ln 1 Z<|.r 1<|RG.CL (DW (⟨(⟨(Cd s.idx n).1.names,((Cd s.idx n).1).AY⟩:Idx),((Ai s)).parts,(((Ai s)).mem++[(⟨(Cd s.idx n).2.1,(⟨r.t,r.v⟩:Row)⟩:Smp)])⟩:Sto) ((Cd s.idx n).2.1) (Z.a 0) (Z.a 1) (Z.a 4) (Z.oa 2) (by exact (StoK.of p0 ‹_›).part) (Wp (StoK.of p0 ‹_›) ‹_›) (by have q1:=p0.np; exact Nat.le_trans q1 AB) (by have q1:=p0.nm2; simp only [Ai,List.length_append,List.length_cons,List.length_nil]; omega)) Z fun bu bv w Z=>.r 1<|.bp ((((rowsOf (⟨(⟨(Cd s.idx n).1.names,((Cd s.idx n).1).AY⟩:Idx),((Ai s)).parts,(((Ai s)).mem++[(⟨(Cd s.idx n).2.1,(⟨r.t,r.v⟩:Row)⟩:Smp)])⟩:Sto) ((Cd s.idx n).2.1)).length):Int) > 24) (fun ai=>?_) (fun ai=>?_)
 ·refine .d<|.ct<|.s<|.g<|RG.Ln 5 Z<|RG.cl (F7 s (Z.a 10) (Z.a 9) (Z.a 8) (Z.a 7) p0.nm p0.nd p0.sz) ?_
  rintro _ w ⟨⟨aE,bw,aF,aG,bz,aH,aI,bA,aJ,aK,bB,aL,rfl,aj,ak,al,aa,am⟩,ao⟩
  cases aj.len
  cases ak.len
  cases al.len
  cases aa.len
  have Z:=Z.so ao [.own 0 aK 128 aL (((Ai s)).mem)] [.rep aE aF ((((Ai s)).idx).names),.rep aG aH ((((Ai s)).idx).AY),.rep aI aJ (((Ai s)).parts)] nd1 (oN aa am o0) (fc aj (fc ak (fc al fn_)))
  refine RG.Ss 4 Z fun w Z=>.r 1<|.d ?_
  have Z:=Z.sl 0
  exact T.r2 func62 results62 (.B 3 Z) (.t (.bool false)) ⟨⟨_,(Bk rfl (AG (by exact (congrArg Prod.snd (UU p0 ‹_› ‹_› ‹_› ‹_› ‹_› ‹_›)).symm))),Z.rS (g:=1) (⟨(⟨(((Ai s)).idx).names,(((Ai s)).idx).AY⟩:Idx),((Ai s)).parts,((Ai s)).mem⟩:Sto) [1,2,3,0] (by exact (congrArg Prod.fst (UU p0 ‹_› ‹_› ‹_› ‹_› ‹_› ‹_›)).symm)⟩,Z.xt⟩
 refine .d<|.cf<|.sk<|.s<|.g<|RG.Ln 1 Z<|RG.Ss 3 Z fun w Z=>.r 1<|.d ?_
 have Z:=Z.sl 2
 exact T.r2 func62 results62 (.B 2 Z) (.t (.bool true)) ⟨⟨_,(Bk rfl (AG (by exact (congrArg Prod.snd (UW p0 ‹_› ‹_› ‹_› ‹_› ‹_› ‹_›)).symm))),Z.rS (g:=1) (⟨(⟨(Cd s.idx n).1.names,((Cd s.idx n).1).AY⟩:Idx),((Ai s)).parts,(((Ai s)).mem++[(⟨(Cd s.idx n).2.1,(⟨r.t,r.v⟩:Row)⟩:Smp)])⟩:Sto) [2,3,6,0] (by exact (congrArg Prod.fst (UW p0 ‹_› ‹_› ‹_› ‹_› ‹_› ‹_›)).symm)⟩,Z.xt⟩
end Go.Proofs.YtckdhcbbgmiccaaGreatDoor
namespace Go.Proofs.YtckdhcbbgmiccaaGreatDoor
def look (t:Int) (b:List Row):Option Row:=b.find? (fun r=>r.t==t)
theorem Ub (t:Int):look t []=none:=rfl
theorem Bi (t:Int) (r:Row) (b:List Row):look t (r::b)=if r.t=t then some r else look t b:=by
 unfold look
 rw [List.find?_cons]
 by_cases h:r.t=t
 ·simp [h]
 ·have:(r.t==t)=false:=beq_eq_false_iff_ne.2 h
  rw [this,if_neg h]
theorem Pf (t:Int) (r:Row):∀ (b:List Row),look t (De r b)=if r.t=t then some r else look t b:=by
 intro b
 induction b with
 | nil=>unfold De; rw [Bi]
 | cons x xs ih =>
   unfold De
   by_cases h1:r.t< x.t
   ·rw [if_pos h1,Bi]
   ·rw [if_neg h1]
    by_cases h2:r.t=x.t
    ·rw [if_pos h2,Bi,Bi]
     by_cases h:r.t=t
     ·rw [if_pos h,if_pos h]
     ·rw [if_neg h,if_neg h,if_neg AB]
    ·rw [if_neg h2,Bi,ih,Bi]
     by_cases h:r.t=t
     ·rw [if_pos h,if_neg AB,if_pos h]
     ·rw [if_neg h,if_neg h]
theorem Blk.tl {r:Row}{b:List Row}(h:Blk (r::b)):Blk b∧Be r=true∧∀ q∈b,r.t< q.t:=by
 obtain ⟨h1,_,h3⟩:=Bg.1 h
 exact ⟨PQ h3,h1,NT b r h3⟩
theorem KT {t:Int}:∀ {b:List Row},(∀ q∈b,t≠q.t)→look t b=none:=by
 intro b
 induction b with
 | nil=>intro _; rfl
 | cons x xs ih =>
   intro h
   rw [Bi,if_neg (fun e=>h x AD e.symm)]
   exact ih (fun q hq=>h q (by simp [hq]))
theorem KU {t:Int}{q:Row}:∀ {b:List Row},look t b=some q→q.t=t∧q∈b:=by
 intro b h
 have h1:=List.find?_some h
 exact ⟨by simpa using h1,List.mem_of_find?_eq_some h⟩
theorem Cw (t:Int):∀ {b:List Row}(o:List Row),Blk o→Blk b→look t (Bl o b)=(look t b).or (look t o):=by
 intro b
 induction b with
 | nil=>intro o _ _; rfl
 | cons x xs ih =>
   intro o ho hb
   obtain ⟨h1,h2,h3⟩:=hb.tl
   have e:Bl o (x::xs)=Bl (Eg o x) xs:=rfl
   rw [e,ih _ (ho.put h2) h1,Ge ho,Pf,Bi]
   by_cases h:x.t=t
   ·rw [if_pos h,if_pos h,KT (fun q hq=>by have:=h3 q hq; omega)]
    rfl
   ·rw [if_neg h,if_neg h]
theorem MP:∀ {a b:List Row},Blk a→Blk b→(∀ t,look t a=look t b)→a=b:=by
 intro a
 induction a with
 | nil =>
   intro b _ _ h
   cases b with
   | nil=>rfl
   | cons y ys =>
     have:=h y.t
     rw [Bi,if_pos rfl] at this
     cases this
 | cons x xs ih =>
   intro b ha hb h
   cases b with
   | nil =>
     have:=h x.t
     rw [Bi,if_pos rfl] at this
     cases this
   | cons y ys =>
     obtain ⟨a1,_,a3⟩:=ha.tl
     obtain ⟨b1,_,b3⟩:=hb.tl
     have hx:=h x.t
     have hy:=h y.t
     rw [Bi,if_pos rfl,Bi] at hx
     rw [Bi,Bi,if_pos rfl] at hy
     by_cases e:x.t=y.t
     ·rw [if_pos e.symm] at hx
      cases hx
      congr 1
      refine ih a1 b1 (fun t=>?_)
      have ht:=h t
      rw [Bi,Bi] at ht
      by_cases e2:x.t=t
      ·rw [KT (fun q hq=>by have:=a3 q hq; omega),KT (fun q hq=>by have:=b3 q hq; omega)]
      ·rw [if_neg e2,if_neg e2] at ht
       exact ht
     ·rw [if_neg (fun e2=>e e2.symm)] at hx
      rw [if_neg e] at hy
      have h1:=b3 x (KU hx.symm).2
      have h2:=a3 y (KU hy).2
      omega
theorem Od:∀ {b a:List Row},Blk a→Blk b→(∀ t,(look t a).isSome=true→(look t b).isSome=true)→a.length≤b.length:=by
 intro b
 induction b with
 | nil =>
   intro a _ _ h
   cases a with
   | nil=>exact Nat.le_refl _
   | cons x xs =>
     have:=h x.t (by rw [Bi,if_pos rfl]; rfl)
     cases this
 | cons y ys ih =>
   intro a ha hb h
   obtain ⟨b1,_,b3⟩:=hb.tl
   cases a with
   | nil=>simp
   | cons x xs =>
     obtain ⟨a1,_,a3⟩:=ha.tl
     have hx:=h x.t (by rw [Bi,if_pos rfl]; rfl)
     rw [Bi] at hx
     by_cases e:y.t=x.t
     ·simp only [List.length_cons]
      refine Nat.succ_le_succ (ih a1 b1 (fun t ht=>?_))
      obtain ⟨q,hq⟩:=Option.isSome_iff_exists.1 ht
      have hq2:=KU hq
      have h4:=a3 q hq2.2
      have h5:=h t (by rw [Bi,if_neg AB]; exact ht)
      rw [Bi,if_neg AB] at h5
      exact h5
     ·rw [if_neg e] at hx
      obtain ⟨q,hq⟩:=Option.isSome_iff_exists.1 hx
      have hq2:=KU hq
      have h4:=b3 q hq2.2
      refine Nat.le_succ_of_le (ih ha b1 (fun t ht=>?_))
      obtain ⟨u,hu⟩:=Option.isSome_iff_exists.1 ht
      have hu2:=KU hu
      have h6:x.t≤u.t:=by
       rcases List.mem_cons.1 hu2.2 with e2 | hm
       ·rw [e2]; exact Int.le_refl _
       ·have:=a3 u hm; omega
      have h5:=h t ht
      rw [Bi,if_neg AB] at h5
      exact h5
theorem Oe {a b c:List Row}(ha:Blk a) (hb:Blk b) (hc:Blk c):Bl (Bl a b) c=Bl a (Bl b c) :=
 MP ((ha.merge hb).merge hc) (ha.merge (hb.merge hc)) (fun t=>by
  rw [Cw t _ (ha.merge hb) hc,Cw t _ ha hb,Cw t _ ha (hb.merge hc),Cw t _ hb hc,Option.or_assoc])
theorem MQ (a:List Row):Bl a []=a:=rfl
theorem MR {a:List Row}(h:Blk a):Bl [] a=a:=MP (Blk.nil.merge h) h (fun t=>by rw [Cw t _ Blk.nil h,Ub]; simp)
theorem Uc (id:Int):∀ (bs:List (List Row)) (i:Nat),Bj id (BQ i bs).1 (BQ i bs).2=if (i:Int)+1≤id then bs.getD (id - i - 1).toNat [] else []:=by
 intro bs
 induction bs with
 | nil=>intro i; simp [BQ,Bj]
 | cons b bs ih =>
   intro i
   have h1:=ih (i+1)
   unfold BQ
   by_cases hb:b.length > 0
   ·rw [if_pos hb]
    unfold Bj
    by_cases he:(i:Int)+1=id
    ·rw [if_pos (by simpa using he),if_pos AB,show (id - i - 1).toNat=0 by omega]
     rfl
    ·rw [if_neg (by simpa using he),h1]
     by_cases h2:(i:Int)+1≤id
     ·rw [if_pos AB,if_pos h2,show (id - i - 1).toNat=(id - (i+1:Nat) - 1).toNat+1 by omega]
      rfl
     ·rw [if_neg AB,if_neg h2]
   ·rw [if_neg hb,h1]
    have:b=[]:=List.length_eq_zero_iff.1 AB
    subst this
    by_cases h2:(i:Int)+1≤id
    ·rw [if_pos h2]
     by_cases he:(i:Int)+1=id
     ·rw [if_neg AB,show (id - i - 1).toNat=0 by omega]
      rfl
     ·rw [if_pos AB,show (id - i - 1).toNat=(id - (i+1:Nat) - 1).toNat+1 by omega]
      rfl
    ·rw [if_neg AB,if_neg h2]
theorem Pg (bs:List (List Row)){id:Int}(h:1≤id):partOf (EM bs) id=bs.getD (id - 1).toNat []:=by
 unfold partOf EM
 have:=Uc id bs 0
 rw [if_pos AB] at this
 rw [this,show (id - (0:Nat) - 1)=id - 1 by omega]
theorem Dg:∀ (bs:List (List Row)) (i:Nat) (b:List Row),BQ i (bs++[b])=if b.length > 0 then ((BQ i bs).1++[(i:Int)+bs.length+1],(BQ i bs).2++[b]) else BQ i bs:=by
 intro bs
 induction bs with
 | nil=>intro i b; simp [BQ]
 | cons x xs ih =>
   intro i b
   rw [List.cons_append]
   have h1:=ih (i+1) b
   unfold BQ
   rw [h1]
   by_cases hb:b.length > 0
   ·rw [if_pos hb,if_pos hb]
    simp only [List.length_cons]
    split <;> simp <;> omega
   ·rw [if_neg hb,if_neg hb]
def Eh (mem:List Smp):Sto:=⟨⟨[],[]⟩,[],mem⟩
def Dr (mem:List Smp) (n:Nat):List (List Row):=(List.range n).map (fun (i:Nat)=>rowsOf (Eh mem) ((i:Int)+1))
theorem Hg (mem:List Smp) (n:Nat):(Dr mem n).length=n:=by simp [Dr]
theorem S8 (mem:List Smp) (n:Nat):Dr mem (n+1)=Dr mem n++[rowsOf (Eh mem) ((n:Int)+1)]:=by simp [Dr,List.range_succ]
theorem S9 (mem:List Smp) (m:Smp) (h:1≤m.id∧m.id≤6):Dr (mem++[m]) 6=HM (Dr mem 6) m:=by
 have key:∀ id:Int,rowsOf (Eh (mem++[m])) id=Cl id (rowsOf (Eh mem) id) m:=fun id=>by
  unfold rowsOf Eh
  simp only [List.foldl_append,List.foldl_cons,List.foldl_nil]
 refine List.ext_getElem? (fun i=>?_)
 unfold HM
 rw [List.getElem?_set]
 by_cases hi:i< 6
 ·have e:∀ mem:List Smp,(Dr mem 6)[i]? = some (rowsOf (Eh mem) ((i:Int)+1)):=fun mem=>by unfold Dr; rw [List.getElem?_map,List.getElem?_range hi]; rfl
  rw [e,key]
  by_cases h2:(m.id - 1).toNat=i
  ·rw [if_pos h2,if_pos (by rw [Hg]; omega),List.getD_eq_getElem?_getD,h2,e]
   unfold Cl
   rw [if_pos (by simp; omega)]
   rfl
  ·rw [if_neg h2,e]
   unfold Cl
   rw [if_neg (by simp; omega)]
 ·rw [List.getElem?_eq_none (by rw [Hg]; omega),if_neg AB,List.getElem?_eq_none (by rw [Hg]; omega)]
theorem Wr {mem:List Smp}(h:∀ m∈mem,1≤m.id∧m.id≤6):mem.foldl HM [[],[],[],[],[],[]]=Dr mem 6:=by
 have key:∀ (ms pre:List Smp),(∀ m∈ms,1≤m.id∧m.id≤6)→ms.foldl HM (Dr pre 6)=Dr (pre++ms) 6:=by
  intro ms
  induction ms with
  | nil=>intro pre _; simp
  | cons m ms ih =>
    intro pre h
    rw [List.foldl_cons,← S9 pre m (h m AD),ih (pre++[m]) (fun q hq=>h q (by simp [hq]))]
    simp
 have:=key mem [] h
 rw [List.nil_append] at this
 rw [← this]
 rfl
theorem Im {mem:List Smp}(h:∀ m∈mem,1≤m.id∧m.id≤6):Ak mem=EM (Dr mem 6):=by unfold Ak; rw [Wr h]
theorem Qv {mem:List Smp}(h:∀ m∈mem,1≤m.id∧m.id≤6){id:Int}(h1:1≤id) (h2:id≤6):partOf (Ak mem) id=rowsOf (Eh mem) id:=by
 rw [Im h,Pg _ h1,List.getD_eq_getElem?_getD]
 unfold Dr
 rw [List.getElem?_map,List.getElem?_range AB]
 simp only [Option.map_some,Option.getD_some]
 rw [show (((id - 1).toNat:Nat):Int)+1=id by omega]
def JU (t id:Int) (mem:List Smp) (x:Option Row):Option Row:=mem.foldl (fun acc m=>if m.id=id∧m.row.t=t then some m.row else acc) x
theorem Ud (t id:Int):∀ (mem:List Smp) (x:Option Row),JU t id mem x=(JU t id mem none).or x:=by
 intro mem
 induction mem with
 | nil=>intro x; rfl
 | cons m ms ih =>
   intro x
   unfold JU at ih ⊢
   rw [List.foldl_cons,List.foldl_cons]
   by_cases h:m.id=id∧m.row.t=t
   ·rw [if_pos h,if_pos h,ih (some m.row)]
    cases List.foldl (fun acc m=>if m.id=id∧m.row.t=t then some m.row else acc) none ms <;> rfl
   ·rw [if_neg h,if_neg h,ih x]
theorem EW (t id:Int):∀ (mem:List Smp) (o:List Row),(∀ m∈mem,Be m.row=true)→Blk o→look t (mem.foldl (Cl id) o)=JU t id mem (look t o)∧Blk (mem.foldl (Cl id) o):=by
 intro mem
 induction mem with
 | nil=>intro o _ ho; exact ⟨rfl,ho⟩
 | cons m ms ih =>
   intro o h ho
   have h1:Blk (Cl id o m):=by
    unfold Cl
    split
    ·exact ho.put (h m AD)
    ·exact ho
   obtain ⟨h2,h3⟩:=ih (Cl id o m) (fun q hq=>h q (by simp [hq])) h1
   refine ⟨?_,h3⟩
   rw [List.foldl_cons,h2]
   unfold JU
   rw [List.foldl_cons]
   congr 1
   by_cases hid:m.id=id
   ·rw [KJ hid ho,Pf]
    by_cases ht:m.row.t=t
    ·rw [if_pos ht,if_pos ⟨hid,ht⟩]
    ·rw [if_neg ht,if_neg (fun e=>ht e.2)]
   ·rw [Gg hid,if_neg (fun e=>hid e.1)]
theorem mem_merge {id:Int}{mem:List Smp}{o:List Row}(h:∀ m∈mem,Be m.row=true) (ho:Blk o):mem.foldl (Cl id) o=Bl o (rowsOf (Eh mem) id):=by
 have a:=fun t=>(EW t id mem o h ho).1
 have b:=fun t=>(EW t id mem [] h Blk.nil).1
 have bb:Blk (rowsOf (Eh mem) id):=(EW 0 id mem [] h Blk.nil).2
 refine MP (EW 0 id mem o h ho).2 (ho.merge bb) (fun t=>?_)
 rw [a,Cw t _ ho bb]
 have e:look t (rowsOf (Eh mem) id)=JU t id mem none:=b t
 rw [e,← Ud]
def DA (s:Sto):Sto:=⟨s.idx,s.parts++[Ak s.mem],[]⟩
theorem Gi {id:Int}:∀ {ps:List Prt}{o:List Row},(∀ p∈ps,PrtI p)→Blk o→Blk (ps.foldl (CG id) o):=by
 intro ps
 induction ps with
 | nil=>intro o _ ho; exact ho
 | cons p ps ih=>intro o hp ho; exact ih (fun q hq=>hp q (by simp [hq])) (ho.merge ((hp p AD).of id))
theorem Ip {s:Sto}(h:StoK s){id:Int}(h1:1≤id) (h2:id≤6):rowsOf (DA s) id=rowsOf s id:=by
 unfold rowsOf DA
 simp only [List.foldl_append,List.foldl_cons,List.foldl_nil]
 have hb:Blk (s.parts.foldl (CG id) []):=Gi h.sd.part Blk.nil
 rw [mem_merge h.row hb]
 unfold CG
 rw [Qv h.KS.J9 h1 h2]
theorem Rw {s:Sto}(h:StoK s) (id t:Int):((look t (s.parts.foldl (CG id) [])).isSome=true∨(look t (rowsOf (Eh s.mem) id)).isSome=true)→(look t (rowsOf s id)).isSome=true:=by
 intro h1
 have hb:Blk (s.parts.foldl (CG id) []):=Gi h.sd.part Blk.nil
 have bb:Blk (rowsOf (Eh s.mem) id):=(EW 0 id s.mem [] h.row Blk.nil).2
 have e:rowsOf s id=Bl (s.parts.foldl (CG id) []) (rowsOf (Eh s.mem) id):=mem_merge h.row hb
 rw [e,Cw t _ hb bb]
 rcases h1 with h1 | h1
 ·cases look t (rowsOf (Eh s.mem) id) with
  | none=>exact h1
  | some q=>rfl
 ·obtain ⟨q,hq⟩:=Option.isSome_iff_exists.1 h1
  rw [hq]; rfl
theorem Ws {s:Sto}(h:StoK s){id:Int}(h24:(rowsOf s id).length≤24):(rowsOf (Eh s.mem) id).length≤24:=by
 have hb:Blk (s.parts.foldl (CG id) []):=Gi h.sd.part Blk.nil
 have bb:Blk (rowsOf (Eh s.mem) id):=(EW 0 id s.mem [] h.row Blk.nil).2
 have e:rowsOf s id=Bl (s.parts.foldl (CG id) []) (rowsOf (Eh s.mem) id):=mem_merge h.row hb
 refine Nat.le_trans (Od bb (b:=rowsOf s id) ?_ (fun t ht=>Rw h id t (.inr ht))) h24
 rw [e]
 exact hb.merge bb
theorem Ue:∀ (bs:List (List Row)) (i:Nat) (o:Option Int),(∀ b∈bs,Blk b∧b.length≤24)→i+bs.length≤6→(∀ q,o=some q→q≤i)→CB o (BQ i bs).1 (BQ i bs).2=true:=by
 intro bs
 induction bs with
 | nil=>intro i o _ _ _; rfl
 | cons b bs ih =>
   intro i o h hl ho
   simp only [List.length_cons] at hl
   unfold BQ
   by_cases hb:b.length > 0
   ·rw [if_pos hb]
    unfold CB
    have h1:=ih (i+1) (some ((i:Int)+1)) (fun x hx=>h x (by simp [hx])) AB (fun q hq=>by cases hq; omega)
    obtain ⟨h2,h3⟩:=h b AD
    have h4:Bn b=true:=by
     unfold Bn
     have h2':Cp none b=true:=h2
     rw [h2',Bool.true_and,decide_eq_true_eq]; exact h3
    rw [h1,h4,decide_eq_true hb]
    have h5:inR ((i:Int)+1) 1 6=true:=by unfold inR; simp; omega
    rw [h5]
    cases o with
    | none=>rfl
    | some q =>
      have:=ho q rfl
      simp
      omega
   ·rw [if_neg hb]
    exact ih (i+1) o (fun x hx=>h x (by simp [hx])) AB (fun q hq=>by have:=ho q hq; omega)
theorem Ph {bs:List (List Row)}(h:∀ b∈bs,Blk b∧b.length≤24) (hl:bs.length≤6):Ay (EM bs)=true:=by
 unfold Ay
 have h1:=(NW bs 0).1
 have h2:=Ue bs 0 none h AB AD
 have h3:CB none (EM bs).ids (EM bs).blocks=true:=h2
 have h4:(EM bs).ids.length=(EM bs).blocks.length:=h1
 rw [h3,decide_eq_true h4]
 rfl
theorem TA:∀ (bs:List (List Row)) (i:Nat) (x:Int),x∈(BQ i bs).1→∃ k:Nat,x=(i:Int)+k+1∧∃ b,bs[k]? = some b∧0< b.length:=by
 intro bs
 induction bs with
 | nil=>intro i x h; simp [BQ] at h
 | cons b bs ih =>
   intro i x h
   unfold BQ at h
   by_cases hb:b.length > 0
   ·rw [if_pos hb] at h
    rcases List.mem_cons.1 h with rfl | h
    ·exact ⟨0,by simp,b,rfl,hb⟩
    ·obtain ⟨k,h1,c,h2,h3⟩:=ih (i+1) x h
     exact ⟨k+1,by rw [h1]; push_cast; omega,c,by simpa using h2,h3⟩
   ·rw [if_neg hb] at h
    obtain ⟨k,h1,c,h2,h3⟩:=ih (i+1) x h
    exact ⟨k+1,by rw [h1]; push_cast; omega,c,by simpa using h2,h3⟩
theorem Qw:∀ (bs:List (List Row)) (i:Nat),(∃ b∈bs,0< b.length)→(BQ i bs).1≠[]:=by
 intro bs
 induction bs with
 | nil=>rintro i ⟨b,hb,_⟩; cases hb
 | cons c bs ih =>
   rintro i ⟨b,hb,hl⟩
   unfold BQ
   by_cases hc:c.length > 0
   ·rw [if_pos hc]; simp
   ·rw [if_neg hc]
    rcases List.mem_cons.1 hb with rfl | hb
    ·exact absurd hl hc
    ·exact ih (i+1) ⟨b,hb,hl⟩
theorem Pj {bs:List (List Row)}{n:Nat}(h:∀ b∈bs,Blk b∧b.length≤24) (hl:bs.length≤6) (h1:∃ b∈bs,0< b.length) (h2:∀ k b,bs[k]? = some b→0< b.length→k< n):Bv (EM bs) n=true:=by
 unfold Bv
 rw [Ph h hl,Bool.true_and]
 cases hx:(EM bs).ids.getLast? with
 | none=>exact absurd (List.getLast?_eq_none_iff.1 hx) (Qw bs 0 h1)
 | some x =>
   obtain ⟨k,e,b,hb,hb2⟩:=TA bs 0 x (List.mem_of_getLast? hx)
   have:=h2 k b hb hb2
   simp
   omega
theorem Uf {mem:List Smp}(h:∀ m∈mem,1≤m.id∧m.id≤6∧Be m.row=true) (hm:mem≠[]):∃ b∈Dr mem 6,0< b.length:=by
 obtain ⟨m,hl⟩:∃ m,m∈mem:=List.exists_mem_of_ne_nil mem hm
 have hid:=h m hl
 have hr:∀ m∈mem,Be m.row=true:=fun m hm=>(h m hm).2.2
 refine ⟨rowsOf (Eh mem) m.id,?_,?_⟩
 ·unfold Dr
  refine List.mem_map.2 ⟨(m.id - 1).toNat,by simp; omega,?_⟩
  rw [show (((m.id - 1).toNat:Nat):Int)+1=m.id by omega]
 ·have h1:(look m.row.t (rowsOf (Eh mem) m.id)).isSome=true:=by
   have e:look m.row.t (rowsOf (Eh mem) m.id)=JU m.row.t m.id mem none:=(EW m.row.t m.id mem [] hr Blk.nil).1
   rw [e]
   have key:∀ (ms:List Smp) (x:Option Row),x.isSome=true∨m∈ms→(JU m.row.t m.id ms x).isSome=true:=by
    intro ms
    induction ms with
    | nil=>intro x hx; rcases hx with hx | hx; exact hx; cases hx
    | cons c cs ih =>
      intro x hx
      unfold JU at ih ⊢
      rw [List.foldl_cons]
      by_cases hc:c.id=m.id∧c.row.t=m.row.t
      ·rw [if_pos hc]; exact ih _ (.inl rfl)
      ·rw [if_neg hc]
       rcases hx with hx | hx
       ·exact ih _ (.inl hx)
       ·rcases List.mem_cons.1 hx with rfl | hx
        ·exact absurd ⟨rfl,rfl⟩ hc
        ·exact ih _ (.inr hx)
   exact key mem none (.inr hl)
  obtain ⟨q,hq⟩:=Option.isSome_iff_exists.1 h1
  exact List.length_pos_of_mem (KU hq).2
theorem Rx {s:Sto}(h:StoK s){id:Int}(hi:(s.idx.names.length:Int)< id):rowsOf (Eh s.mem) id=[]:=by
 have key:∀ (mem:List Smp) (o:List Row),(∀ m∈mem,m.id≠id)→mem.foldl (Cl id) o=o:=by
  intro mem
  induction mem with
  | nil=>intro o _; rfl
  | cons m ms ih =>
    intro o h
    rw [List.foldl_cons,Gg (h m AD)]
    exact ih o (fun x hx=>h x (by simp [hx]))
 exact key s.mem [] (fun m hm=>by have:=(h.id m hm).2; omega)
theorem JV {s:Sto}(h:SD s) (hk:Ab s=true) (h1:s.mem≠[]) (h2:s.parts.length< 6):Ab (DA s)=true:=by
 have hK:=StoK.of h hk
 have hk2:=hk
 unfold Ab at hk2 ⊢
 simp only [AW,decide_eq_true_eq,List.all_eq_true,List.mem_range,FF] at hk2 ⊢
 obtain ⟨⟨⟨⟨a1,a2⟩,a3⟩,a4⟩,a5⟩:=hk2
 have hn:=h.nm.len
 have h24:∀ i< s.idx.names.length,(rowsOf (Eh s.mem) ((i:Int)+1)).length≤24:=fun i hi=>Ws hK (a5 i hi)
 have hpos:∀ k b,(Dr s.mem 6)[k]? = some b→0< b.length→k< s.idx.names.length:=fun k b hb hl=>by
  unfold Dr at hb
  rw [List.getElem?_map] at hb
  by_cases hk6:k< 6
  ·rw [List.getElem?_range hk6] at hb
   simp only [Option.map_some,Option.some.injEq] at hb
   subst hb
   by_cases hlt:k< s.idx.names.length
   ·exact hlt
   ·rw [Rx hK (id:=(k:Int)+1) AB] at hl
    cases hl
  ·rw [List.getElem?_eq_none (by simp; omega)] at hb
   cases hb
 refine ⟨⟨⟨⟨by simp [DA]; omega,by simp [DA]⟩,fun p hp=>?_⟩,by simp [DA]⟩,fun i hi=>?_⟩
 ·rcases List.mem_append.1 hp with hp | hp
  ·exact a3 p hp
  ·simp only [List.mem_cons,List.not_mem_nil,or_false] at hp
   subst hp
   rw [Im hK.KS.J9]
   refine Pj (fun b hb=>?_) (by rw [Hg]; omega) (Uf (fun m hm=>⟨(hK.KS.J9 m hm).1,(hK.KS.J9 m hm).2,hK.row m hm⟩) h1) hpos
   unfold Dr at hb
   obtain ⟨i,hi,rfl⟩:=List.mem_map.1 hb
   refine ⟨(EW 0 _ s.mem [] hK.row Blk.nil).2,?_⟩
   by_cases hlt:i< s.idx.names.length
   ·exact h24 i hlt
   ·rw [Rx hK (id:=(i:Int)+1) AB]
    simp
 ·have hi2:i< s.idx.names.length:=hi
  rw [Ip hK AB AB]
  exact a5 i hi2
def Bs (s:Sto):Sto × Bool:=if Ab s then BM (Ai s) else (⟨⟨[],[]⟩,[],[]⟩,false)
theorem KV {s:Sto}(h:Ab s=false):Bs s=(⟨⟨[],[]⟩,[],[]⟩,false):=by unfold Bs; rw [if_neg (by simp [h])]
theorem Iq {s:Sto}(h:Ab s=true):Bs s=BM (Ai s):=by unfold Bs; rw [if_pos h]
theorem Og {s:Sto}(h:Ab s=true):s.parts.length≤6:=by
 unfold Ab at h
 simp only [AW,decide_eq_true_eq] at h
 exact h.1.1.1.1
theorem Hh {s:Sto}(_h:SD s) (hk:Ab s=true) (h1:(s.mem.length:Int)=0∨(s.parts.length:Int)=6):Bs s=(Ai s,false):=by
 rw [Iq hk]
 unfold BM
 have e1:(Ai s).mem.length=s.mem.length:=rfl
 have e2:(Ai s).parts.length=s.parts.length:=rfl
 rw [if_pos AB]
theorem JW {s:Sto}(_h:SD s) (hk:Ab s=true) (h1:(s.mem.length:Int)≠0) (h2:(s.parts.length:Int)≠6):Bs s=(⟨(Ai s).idx,(Ai s).parts++[Ak s.mem],[]⟩,true):=by
 rw [Iq hk]
 unfold BM
 have e1:(Ai s).mem.length=s.mem.length:=rfl
 have e2:(Ai s).parts.length=s.parts.length:=rfl
 have:=Og hk
 rw [if_neg AB]
 rfl
theorem Ry {mem:List Smp}{k:Nat}(hk:1≤k):Dr mem (k+1 - 1)=Dr mem (k - 1)++[rowsOf (Eh mem) (k:Int)]:=by
 rw [show k+1 - 1=(k - 1)+1 by omega,S8,show ((k - 1:Nat):Int)+1=(k:Int) by omega]
theorem Wt {mem:List Smp}{k:Nat}{a:List Int}(h:a=(BQ 0 (Dr mem (k - 1))).1) (hk:1≤k) (hl:((rowsOf (Eh mem) (k:Int)).length:Int) > 0):a++[(k:Int)]=(BQ 0 (Dr mem (k+1 - 1))).1:=by
 rw [Ry hk,Dg,if_pos AB,h,Hg,show ((0:Nat):Int)+((k - 1:Nat):Int)+1=(k:Int) by omega]
theorem Wu {mem:List Smp}{k:Nat}{a:List Int}(h:a=(BQ 0 (Dr mem (k - 1))).1) (hk:1≤k) (hl:¬ ((rowsOf (Eh mem) (k:Int)).length:Int) > 0):a=(BQ 0 (Dr mem (k+1 - 1))).1:=by
 rw [Ry hk,Dg,if_neg AB,h]
theorem Wv {mem:List Smp}{k:Nat}{a:List (List Row)}(h:a=(BQ 0 (Dr mem (k - 1))).2) (hk:1≤k) (hl:((rowsOf (Eh mem) (k:Int)).length:Int) > 0):a++[rowsOf (Eh mem) (k:Int)]=(BQ 0 (Dr mem (k+1 - 1))).2:=by
 rw [Ry hk,Dg,if_pos AB,h]
theorem Ww {mem:List Smp}{k:Nat}{a:List (List Row)}(h:a=(BQ 0 (Dr mem (k - 1))).2) (hk:1≤k) (hl:¬ ((rowsOf (Eh mem) (k:Int)).length:Int) > 0):a=(BQ 0 (Dr mem (k+1 - 1))).2:=by
 rw [Ry hk,Dg,if_neg AB,h]
theorem Zu {mem:List Smp}{k:Nat}{a:List Int}{b:List (List Row)}(hm:∀ m∈mem,1≤m.id∧m.id≤6) (hk:k=7) (ha:a=(BQ 0 (Dr mem (k - 1))).1) (hb:b=(BQ 0 (Dr mem (k - 1))).2):(⟨a,b⟩:Prt)=Ak mem:=by
 subst hk ha hb
 rw [Im hm]
 rfl
end Go.Proofs.YtckdhcbbgmiccaaGreatDoor
