/- Sorting by insertion: rules, the order of tags, what a round keeps. No conditions. -/
import Derived.Test.YtggnnidleedpaaaGreatWqzMod16
import Derived.Test.YtggnnidleedpaaaGreatWqzLen
open Go.Proofs.Tryz
set_option linter.unusedVariables false
set_option linter.unusedSimpArgs false
namespace Go.Proofs.YtggnnidleedpaaaGreat
section
variable {P:Program} {S:Nat→Prop} {n m:Nat} {L:Env→World→Prop} {ops:Array Oper} {l:List Nat} {e:Env} {w:World}
theorem GE.GU {i:Nat}{t':TypeId}{b o:Nat}{cs:List Value}(k:Nat) (vs:List Value) (hc:Has w ⟨b,o,none⟩ cs) (h:loadAt n ops i e=some (t',⟨b,o+k,none⟩)) (hs:Ev P t' vs.length=true) (hv:(cs.drop k).take vs.length=vs)
 (H:∀ w1,Ext w w1→GA P S n m L ops (i::l) (Ah e (Ad ops i).dst (.agg vs.toArray)) w1):GE P S n m L ops l i e w:=fun w1 hx=>by
 rw [(run_load (P:=P) (w:=w1) h ((hc.ext hx).MC k vs hs hv)).2]
 exact ⟨Chg.refl S _,H w1 hx⟩
theorem GE.EH {α:Type}[Rep α] {i r t N c q k:Nat}{F:Nat→Prop}{xs:List α}{t':TypeId}{x:α}{cs:List Value}{v:Value}(x':α) (ho:Own w r t F N c xs) (hx:xs[q]? = some x)
 (hh:Has w ⟨r,0+q * Rep.sz α,none⟩ cs) (hr:Rep.rep w (fun b=>F b∧b≠r) x' (BA cs k v.cells.toList)) (h:storeAt n ops i e=some (t',⟨r,0+q * Rep.sz α+k,none⟩,v)) (hl:Nat.beq cs.length (Rep.sz α)=true)
 (hs:(Ef P t' v.cells.size&&Nat.ble (k+v.cells.size) cs.length&&v.cells.toList.all DS)=true)
 (H:∀ w1,Ext w w1→∀ w2,Own w2 r t F N c (xs.set q x')→Chg (Go.Proofs.YtggnnidleedpaaaGreat.one r) w1 w2→w2.heap.size=w1.heap.size→Chg S w1 w2∧GA P S n m L ops (i::l) (Ah e (Ad ops i).dst undef) w2):GE P S n m L ops l i e w:=fun w1 hx1=>by
 rw [Nat.zero_add] at hh h
 have hr1:Rep.rep w1 (fun b=>F b∧b≠r) x' (BA cs k v.cells.toList):=Rep.frame hr (fun b hb hF=>⟨hF,hx1.block hb⟩)
 obtain ⟨w2,hrun,ho',hx',hsz⟩:=(ho.ext hx1).store (P:=P) (t':=t') (k:=k) hx (hh.ext hx1) (Nat.eq_of_beq_eq_true hl) hs hr1
 rw [GV h hrun]
 obtain ⟨h1,h2⟩:=H w1 hx1 w2 ho' hx' hsz
 exact ⟨h1,h2⟩
end
theorem Own.PV {α:Type}[Rep α] {w:World}{r t n c:Nat}{F:Nat→Prop}{xs:List α}(h:Own w r t F n c xs):Own w r t (nin F [r]) n c xs :=
 ⟨h.len,h.le,h.cap,h.row,fun i x hi=>by
  obtain ⟨cs,h1,h2⟩:=h.elem i x hi
  exact ⟨cs,Rep.frame h1 (fun b _ hF=>⟨⟨⟨hF.1,by simp; exact hF.2⟩,hF.2⟩,rfl⟩),h2⟩⟩
theorem Own.NS {α:Type}[Rep α] {w:World}{r t n c:Nat}{F:Nat→Prop}{xs:List α}(h:Own w r t (nin F [r]) n c xs):Own w r t F n c xs:=h.Bl fun _ _ hF=>hF.1
theorem Oc (a b:UInt8) (x y:Str):Bn (a::x) (b::y)=(decide (a< b) || a==b&&Bn x y):=rfl
theorem JT:∀ (x y z:Str),Bn x y=true→Bn y z=true→Bn x z=true:=by
 intro x
 induction x with
 | nil =>
   intro y z h1 h2
   cases z with
   | nil=>cases y <;> simp [Bn,Op.bytesLess] at h2
   | cons=>rfl
 | cons a x ih =>
   intro y z h1 h2
   cases y with
   | nil=>simp [Bn,Op.bytesLess] at h1
   | cons b y =>
     cases z with
     | nil=>simp [Bn,Op.bytesLess] at h2
     | cons c z =>
       rw [Oc] at h1 h2 ⊢
       simp only [Bool.or_eq_true,decide_eq_true_eq,AW,beq_iff_eq] at h1 h2 ⊢
       rcases h1 with h1 | ⟨h1,h3⟩
       ·rcases h2 with h2 | ⟨h2,h4⟩
        ·left
         have g1:=UInt8.lt_iff_toNat_lt.1 h1
         have g2:=UInt8.lt_iff_toNat_lt.1 h2
         exact UInt8.lt_iff_toNat_lt.2 AB
        ·left; rw [← h2]; exact h1
       ·rcases h2 with h2 | ⟨h2,h4⟩
        ·left; rw [h1]; exact h2
        ·right; exact ⟨h1.trans h2,ih y z h3 h4⟩
theorem I5 {x y:Str}(h1:Bn x y=false) (h2:Bn y x=false):x=y:=by
 have:=IC x y
 unfold Ex at this
 unfold Bn at h1 h2 this
 rw [h1,h2] at this
 simpa using this
theorem Gq {a b c:Tag}(h1:EU a b=true) (h2:EU b c=true):EU a c=true:=by
 unfold EU at *
 simp only [Bool.or_eq_true,AW,beq_iff_eq] at *
 rcases h1 with h1 | ⟨h1,h3⟩
 ·rcases h2 with h2 | ⟨h2,h4⟩
  ·exact .inl (JT _ _ _ h1 h2)
  ·exact .inl (h2▸h1)
 ·rcases h2 with h2 | ⟨h2,h4⟩
  ·exact .inl (h1▸h2)
  ·exact .inr ⟨h1.trans h2,JT _ _ _ h3 h4⟩
theorem Lo (a:Tag):EU a a=false:=by unfold EU; simp [Iw]
theorem Lq {a b:Tag}(h1:EU a b=false) (h2:EU b a=false):a=b:=by
 unfold EU at h1 h2
 simp only [Bool.or_eq_false_iff,Bool.and_eq_false_iff] at h1 h2
 have hk:=I5 h1.1 h2.1
 have hv:a.val=b.val:=by
  rcases h1.2 with h | h
  ·rw [hk] at h; simp at h
  ·rcases h2.2 with h' | h'
   ·rw [hk] at h'; simp at h'
   ·exact I5 h h'
 cases a; cases b
 simp only at hk hv
 rw [hk,hv]
theorem Mb (a b:Pst):LI a b< 0↔EU a.tag b.tag=true:=by
 unfold LI I1 EU
 cases h1:Bn a.tag.key b.tag.key with
 | true=>simp [orF]
 | false =>
   cases h2:Bn b.tag.key a.tag.key with
   | true =>
     have:¬ a.tag.key=b.tag.key:=fun e=>by rw [e,Iw] at h2; cases h2
     simp [orF,this]
   | false =>
     have e:=I5 h1 h2
     cases h3:Bn a.tag.val b.tag.val with
     | true=>simp [orF,e]
     | false =>
       cases h4:Bn b.tag.val a.tag.val <;> simp [orF]
def Le (a b:Pst):Prop:=¬ LI b a< 0
theorem Le.of_lt {a b:Pst}(h:LI a b< 0):Le a b:=fun h2=>by
 rw [Mb] at h h2
 have:=Gq h h2
 rw [Lo] at this
 cases this
theorem Le.trans {a b c:Pst}(h1:Le a b) (h2:Le b c):Le a c:=by
 unfold Le at *
 rw [Mb] at *
 intro h
 cases h3:EU b.tag c.tag with
 | true=>exact h1 (Gq h3 h)
 | false =>
   have e:=Lq h3 (by simpa using h2)
   rw [← e] at h
   exact h1 h
def BW (xs:List Pst) (i j:Nat):Prop :=
 j≤i∧i< xs.length∧(xs.take j++(xs.take (i+1)).drop (j+1)).Pairwise Le∧∀ x,xs[j]? = some x→∀ y∈(xs.take (i+1)).drop (j+1),Le x y
theorem BW.start {xs:List Pst}{i:Nat}(h:(xs.take i).Pairwise Le) (hi:i< xs.length):BW xs i i:=by
 have:(xs.take (i+1)).drop (i+1)=[]:=List.drop_of_length_le (by simp; omega)
 refine ⟨Nat.le_refl _,hi,?_,?_⟩
 ·rw [this,List.append_nil]; exact h
 ·rw [this]; intro _ _ y hy; cases hy
theorem RT {α:Type}{xs:List α}{j:Nat}{x y:α}(hx:xs[j]? = some x) (hy:xs[j - 1]? = some y) (hj:0< j):∃ A D,xs=A++y::x::D∧A.length=j - 1:=by
 refine ⟨xs.take (j - 1),xs.drop (j+1),?_,?_⟩
 ·have h1:=Be hy
  rw [show j - 1+1=j by omega,Be hx] at h1
  rw [← h1,List.take_append_drop]
 ·obtain ⟨h1,_⟩:=List.getElem?_eq_some_iff.1 hy
  rw [List.length_take]; omega
theorem swap_eq {α:Type}(A D:List α) (x y:α):((A++y::x::D).set (A.length+1) y).set A.length x=A++x::y::D:=by
 simp
theorem swap_perm {xs:List Pst}{j:Nat}{x y:Pst}(hx:xs[j]? = some x) (hy:xs[j - 1]? = some y) (hj:0< j):((xs.set j y).set (j - 1) x).Perm xs:=by
 obtain ⟨A,D,rfl,hA⟩:=RT hx hy hj
 rw [show j=A.length+1 by omega,Nat.add_sub_cancel,swap_eq]
 exact List.Perm.append_left A (List.Perm.swap y x D)
theorem BW.step {xs:List Pst}{i j:Nat}{x y:Pst}(h:BW xs i j) (hj:0< j) (hx:xs[j]? = some x) (hy:xs[j - 1]? = some y) (hc:LI x y< 0):BW ((xs.set j y).set (j - 1) x) i (j - 1):=by
 obtain ⟨h1,h2,h3,h4⟩:=h
 have h5:=h4 x hx
 obtain ⟨A,D,rfl,hA⟩:=RT hx hy hj
 have hj2:j=A.length+1:=by omega
 subst hj2
 have e1:(A++y::x::D).take (A.length+1)=A++[y]:=by rw [List.take_length_add_append]; rfl
 have e2:∀ a b:Pst,((A++a::b::D).take (i+1)).drop (A.length+1+1)=D.take (i - A.length - 1):=by
  intro a b
  rw [List.drop_take,show (A++a::b::D).drop (A.length+1+1)=D from (List.drop_length_add_append (l₁:=A) (l₂:=a::b::D) (i:=2))]
  congr 1
  omega
 have e3:((A++x::y::D).take (i+1)).drop (A.length+1)=y::D.take (i - A.length - 1):=by
  rw [List.drop_take,show (A++x::y::D).drop (A.length+1)=y::D from (List.drop_length_add_append (l₁:=A) (l₂:=x::y::D) (i:=1)),show i+1 - (A.length+1)=(i - A.length - 1)+1 by omega]
  rfl
 rw [e1,e2] at h3
 rw [e2] at h5
 rw [Nat.add_sub_cancel,swap_eq]
 refine ⟨by omega,by simpa using h2,?_,?_⟩
 ·rw [e3,show (A++x::y::D).take A.length=A by simp]
  simpa using h3
 ·intro x' hx' z hz
  rw [e3] at hz
  have:x'=x:=by
   have hg:(A++x::y::D)[A.length]? = some x:=by simp
   rw [hg] at hx'
   cases hx'
   rfl
  subst this
  rcases List.mem_cons.1 hz with rfl | hz
  ·exact Le.of_lt hc
  ·exact h5 z hz
theorem BW.exit {xs:List Pst}{i j:Nat}(h:BW xs i j) (hj:j=0∨∃ x y,xs[j]? = some x∧xs[j - 1]? = some y∧¬ LI x y< 0):(xs.take (i+1)).Pairwise Le:=by
 obtain ⟨h1,h2,h3,h4⟩:=h
 have hjl:j< xs.length:=by omega
 have hx:xs[j]? = some xs[j]:=AU hjl
 have h5:=h4 _ hx
 have e:xs.take (i+1)=xs.take j++xs[j]::(xs.take (i+1)).drop (j+1):=by
  have h6:(xs.take (i+1)).take j=xs.take j:=by rw [List.take_take,Nat.min_eq_left AB]
  have h7:(xs.take (i+1))[j]? = some xs[j]:=by rw [List.getElem?_take,if_pos AB]; exact hx
  rw [← h6,← Be h7,List.take_append_drop]
 rw [e]
 rw [List.pairwise_append] at h3 ⊢
 obtain ⟨g1,g2,g3⟩:=h3
 have key:∀ a∈xs.take j,Le a xs[j]:=by
  intro a ha
  rcases hj with rfl | ⟨x,y,hx',hy,hc⟩
  ·simp at ha
  ·have:x=xs[j]:=by rw [hx] at hx'; cases hx'; rfl
   subst this
   by_cases hj0:j=0
   ·subst hj0; simp at ha
   ·have hyl:xs.take j=xs.take (j - 1)++[y]:=by
     obtain ⟨k,rfl⟩:∃ k,j=k+1:=⟨j - 1,by omega⟩
     rw [Nat.add_sub_cancel] at hy
     rw [List.take_add_one,hy]
     simp
    have hyc:Le y xs[j]:=hc
    rw [hyl] at ha g1
    rcases List.mem_append.1 ha with ha | ha
    ·exact Le.trans ((List.pairwise_append.1 g1).2.2 a ha y AD) hyc
    ·simp at ha; subst ha; exact hyc
 refine ⟨g1,List.pairwise_cons.2 ⟨h5,g2⟩,fun a ha b hb=>?_⟩
 rcases List.mem_cons.1 hb with rfl | hb
 ·exact key a ha
 ·exact g3 a ha b hb
theorem BW.UU {xs:List Pst}{i:Nat}{j:Int}{x y:Pst}(h:BW xs i j.toNat) (hj:j > 0) (hx:xs[j.toNat]? = some x) (hy:xs[(j - 1).toNat]? = some y) (hc:LI x y< 0):BW ((xs.set j.toNat y).set (j - 1).toNat x) i (j - 1).toNat:=by
 rw [show (j - 1).toNat=j.toNat - 1 by omega] at *
 exact h.step AB hx hy hc
theorem Kj {xs xs0:List Pst}{j:Int}{x y:Pst}(hx:xs[j.toNat]? = some x) (hy:xs[(j - 1).toNat]? = some y) (hj:j > 0) (h:xs.Perm xs0):((xs.set j.toNat y).set (j - 1).toNat x).Perm xs0:=by
 rw [show (j - 1).toNat=j.toNat - 1 by omega] at *
 exact (swap_perm hx hy AB).trans h
theorem BW.V4 {xs:List Pst}{i:Nat}{j:Int}(h:BW xs i j.toNat) (hj:¬ j > 0):(xs.take (i+1)).Pairwise Le:=h.exit (.inl AB)
theorem BW.V5 {xs:List Pst}{i:Nat}{j:Int}{x y:Pst}(h:BW xs i j.toNat) (hj:j > 0) (hx:xs[j.toNat]? = some x) (hy:xs[(j - 1).toNat]? = some y) (hc:¬ LI x y< 0):(xs.take (i+1)).Pairwise Le:=by
 rw [show (j - 1).toNat=j.toNat - 1 by omega] at hy
 exact h.exit (.inr ⟨x,y,hx,hy,hc⟩)
end Go.Proofs.YtggnnidleedpaaaGreat
namespace Go.Proofs.YtggnnidleedpaaaGreat
set_option maxRecDepth 100000
set_option maxHeartbeats 4000000
variable {w:World} {F:Nat→Prop}
theorem Jl {r n c:Nat}{xs0:List Pst}(ho:Own w r 117 F n c xs0):Calls Tryz.prog 168 [.slice (some ⟨r,0,none⟩) n c,.int .i64 0,.int .i64 (n:Int),.func (.func 123) #[] #[]].toArray w (Am fun rv w'=>rv=.tuple #[]∧∃ zs,zs.Perm xs0∧zs.Pairwise Le∧Own w' r 117 F n c zs∧Chg (one r) w w'):=by
 refine goT func168 ?_
 replace ho:=ho.PV; have hnl:=ho.len; have hnm:=ho.max
 refine .s<|.g<|.r 1<|.it (1)<|.r 1<|.d<|.b 0<|T.loop (X:=Nat × (List Pst)) (1,xs0) (fun (i,xs)=>[(0,vS r n c),(1,vI 0),(2,vI (n:Int)),(3,.func (.func 123) #[] #[]),(8,vI (i:Int))]) (fun (i,xs) aS=>Chg (ins [r]) w aS∧Own aS r 117 (nin F [r]) n c xs∧(1≤i)∧(xs.Perm xs0)∧((xs.take i).Pairwise Le)) (fun (i,xs)=>n - i) AA ⟨AA,AA,AA,AA,AA,trivial⟩ ⟨Chg.refl _ _,ho,AB,(by exact List.Perm.refl _),(by cases xs0 <;> simp)⟩ ?_
 rintro ⟨i,xs⟩ dB aS ⟨E,aP,cQ,cR,cS⟩ aA
 have cT:Cov (ins [r]) w r:=⟨.inl AI⟩
 have aa:Chg (one r) w aS:=Chg.LQ (Chg.refl (one r) w) E (all_cons (Cov.mk1 w r) all_nil)
 have cU:=aP.len
 refine .s<|.s<|.g<|.r 2<|.bp ((i:Int)< (n:Int)) (fun ce=>?_) (fun ce=>.d<|.cf<|.x 0 rfl<|T.FR func168 results168 ⟨rfl,_,(by assumption:xs.Perm xs0),(by have q1:(xs.take i).Pairwise Le:=‹_›; rw [List.take_of_length_le AB] at q1; exact q1),aP.NS,aa⟩)
 refine .d<|.ct<|.sk<|.s<|.b 1<|.s<|.g<|.r 2<|.d<|.b 2<|T.loop (X:=Int × (List Pst)) ((i:Int),xs) (fun (j,af)=>[(0,vS r n c),(1,vI 0),(2,vI (n:Int)),(3,.func (.func 123) #[] #[]),(8,vI (i:Int)),(9,vI j)]) (fun (j,af) bL=>Chg (ins [r]) aS bL∧Own bL r 117 (nin F [r]) n c af∧(0≤j)∧(af.Perm xs0)∧(BW af i j.toNat)) (fun (j,af)=>j.toNat) AA ⟨AA,AA,AA,AA,AA,AA,trivial⟩ ⟨Chg.refl _ _,aP,AB,‹_›,(by exact BW.start ‹_› AB)⟩ ?_
 rintro ⟨j,af⟩ dC bL ⟨ac,ab,cW,cX,cY⟩ aB
 have cZ:Cov (ins [r]) aS r:=⟨.inl AI⟩
 replace ⟨aa,E⟩:=(si ac).g2 aa E
 have c7:=ab.len
 refine .s<|.s<|.gd nil 14 fun cg bv=>?_
 replace ⟨ab,aa,E,ac⟩:=(se [r] bv).g4 ab aa E ac
 refine .r [0,1]<|GA.F6 (i:=2) (j > 0) AA (fun ci=>?_) (fun ci=>?_)
 ·refine .r [3,4,5,6] ?_
  have cj:j.toNat< n:=(by have q1:BW af i j.toNat:=‹_›; have q2:=q1.1; omega)
  refine GA.idx (i:=7) (b:=r) (o:=0) (j.toNat) (len:=n) (z:=j) (sz:=3) AA (by have q1:BW af i j.toNat:=‹_›; omega) cj rfl ?_
  obtain ⟨ae,ak⟩:∃ y,af[j.toNat]? = some y:=⟨_,AU (by have q1:BW af i j.toNat:=‹_›; omega)⟩
  obtain ⟨_,⟨cG,dD,cH,rfl,aE⟩,aT⟩:=ab.elem (j.toNat) ae ak
  replace aE:=aE.Bl (fun _ _ h=>h.1)
  have ck:=aE.len
  subst ck
  replace aT:Has cg ⟨r,0+(j.toNat) * Rep.sz Pst,none⟩ [vT ae.tag.key,vT ae.tag.val,.slice cG ae.ids.length cH]:=by rw [Nat.zero_add]; exact aT
  refine .lg 8 0 aT id<|.r [9,10]<|GA.int (i:=11) (j - 1) AA AB ?_
  have cm:(j - 1).toNat< n:=(by have q1:BW af i j.toNat:=‹_›; omega)
  refine GA.idx (i:=12) (b:=r) (o:=0) ((j - 1).toNat) (len:=n) (z:=j - 1) (sz:=3) AA (by have q1:BW af i j.toNat:=‹_›; omega) cm rfl ?_
  obtain ⟨ag,aC⟩:∃ y,af[(j - 1).toNat]? = some y:=⟨_,AU (by have q1:BW af i j.toNat:=‹_›; omega)⟩
  obtain ⟨_,⟨cI,dE,cJ,rfl,aF⟩,aU⟩:=ab.elem ((j - 1).toNat) ag aC
  replace aF:=aF.Bl (fun _ _ h=>h.1)
  have co:=aF.len
  subst co
  replace aU:Has cg ⟨r,0+((j - 1).toNat) * Rep.sz Pst,none⟩ [vT ag.tag.key,vT ag.tag.val,.slice cI ag.ids.length cJ]:=by rw [Nat.zero_add]; exact aU
  refine .lg 13 0 aU id<|.d fun cK bw=>?_
  replace ⟨ab,aE,aF,aa,E,ac⟩:=(se [r] bw).g6 ab aE aF aa E ac
  refine .cl (I3 ae ag aE.ta aF.ta (w:=cK) (F:=all)) ?_
  rintro dF bM ⟨rfl,bz⟩
  replace ⟨ab,aa,E,ac⟩:=(se [r] bz).g4 ab aa E ac
  refine .bp (LI ae ag< 0) (fun cp=>?_) (fun cp=>.r 1<|.d<|.cf<|.x 2 rfl<|.ib 1<|.g<|.r 1<|.it ((i:Int)+1)<|.r 1<|.d<|aA (i+1,af) _ _ ⟨AA,AA,AA,AA,AA,trivial⟩ ⟨E,ab,AB,‹_›,(by exact BW.V5 ‹_› ‹_› ‹_› ‹_› ‹_›)⟩ (by (simp only []; omega)))
  refine .r 1<|.d<|.ct<|.sk<|.s<|.b 3 ?_
  have bA:Cov (mtb [r] bM.heap.size) bM r:=⟨.inl (.inl AI)⟩
  refine .gd (mtb [r] bM.heap.size) 16 fun cq bB=>?_
  replace ⟨ab,aa,E,ac⟩:=(se [r] bB).g4 ab aa E ac
  refine .r [0,1,2,3]<|GA.int (i:=4) (j - 1) AA AB<|.r [5,6]<|GA.int (i:=7) (j - 1) AA AB ?_
  have cr:(j - 1).toNat< n:=(by have q1:BW af i j.toNat:=‹_›; omega)
  refine GA.idx (i:=8) (b:=r) (o:=0) ((j - 1).toNat) (len:=n) (z:=j - 1) (sz:=3) AA (by have q1:BW af i j.toNat:=‹_›; omega) cr rfl<|.r [10,11] ?_
  have cu:j.toNat< n:=(by have q1:BW af i j.toNat:=‹_›; omega)
  refine GA.idx (i:=12) (b:=r) (o:=0) (j.toNat) (len:=n) (z:=j) (sz:=3) AA (by have q1:BW af i j.toNat:=‹_›; omega) cu rfl<|.tw 9 13 ?_ ?_
  ·obtain ⟨_,⟨bN,dG,bO,rfl,aD⟩,aV⟩:=ab.elem ((j - 1).toNat) ag aC
   replace aD:=aD.Bl (fun _ _ h=>h.1)
   have cw:=aD.len
   subst cw
   replace aV:Has cq ⟨r,0+((j - 1).toNat) * Rep.sz Pst,none⟩ [vT ag.tag.key,vT ag.tag.val,.slice bN ag.ids.length bO]:=by rw [Nat.zero_add]; exact aV
   refine GE.GU (t':=117) 0 [vT ag.tag.key,vT ag.tag.val,.slice bN ag.ids.length bO] aV AA AA AA fun cL bC=>?_
   replace ⟨ab,aD,aa,E,ac⟩:=(se [r] bC).g5 ab aD aa E ac
   refine .go 13 ?_
   obtain ⟨_,⟨aW,df,aX,rfl,aj⟩,aG⟩:=ab.elem (j.toNat) ae ak
   replace aj:=aj.Bl (fun _ _ h=>h.1)
   have bP:=aj.len
   subst bP
   replace aG:Has cL ⟨r,0+(j.toNat) * Rep.sz Pst,none⟩ [vT ae.tag.key,vT ae.tag.val,.slice aW ae.ids.length aX]:=by rw [Nat.zero_add]; exact aG
   refine GE.GU (t':=117) 0 [vT ae.tag.key,vT ae.tag.val,.slice aW ae.ids.length aX] aG AA AA AA fun cx aY=>?_
   replace ⟨ab,aD,aj,aa,E,ac⟩:=(se [r] aY).g6 ab aD aj aa E ac
   have bQ:j.toNat< n:=(by have q1:BW af i j.toNat:=‹_›; omega)
   refine GA.idx (i:=14) (b:=r) (o:=0) (j.toNat) (len:=n) (z:=j) (sz:=3) AA (by have q1:BW af i j.toNat:=‹_›; omega) bQ rfl<|.go 15 ?_
   obtain ⟨_,⟨bD,dh,bE,rfl,aZ⟩,aH⟩:=ab.elem (j.toNat) ae ak
   replace aZ:=aZ.Bl (fun _ _ h=>h.1)
   have bR:=aZ.len
   subst bR
   replace aH:Has cx ⟨r,0+(j.toNat) * Rep.sz Pst,none⟩ [vT ae.tag.key,vT ae.tag.val,.slice bD ae.ids.length bE]:=by rw [Nat.zero_add]; exact aH
   refine GE.EH (t':=117) (q:=(j.toNat)) (k:=0) (v:=.agg #[vT ag.tag.key,vT ag.tag.val,.slice bN ag.ids.length bO]) (cs:=[vT ae.tag.key,vT ae.tag.val,.slice bD ae.ids.length bE]) ag ab ak aH ⟨_,_,_,rfl,aD.oi⟩ AA AA AA fun dj ba=>?_
   replace ⟨ab,aj,aa,E,ac⟩:=(se [r] ba).g5 ab aj aa E ac
   intro dm au aI bS
   have hkeep_:=Chg.toS aI (Cov.toS bA)
   replace ⟨aj,aa,E,ac⟩:=(so [r] aI).g4 aj aa E ac
   refine ⟨hkeep_,?_⟩
   refine .d fun cy bd=>?_
   replace ⟨au,aj,aa,E,ac⟩:=(se [r] bd).g5 au aj aa E ac
   have bT:(j - 1).toNat< n:=(by have q1:BW af i j.toNat:=‹_›; omega)
   refine RG.idx (b:=r) (o:=0) ((j - 1).toNat) (len:=n) (i:=j - 1) (sz:=3) AA (by have q1:BW af i j.toNat:=‹_›; omega) bT rfl ?_
   obtain ⟨al,ax⟩:∃ y,(af.set (j.toNat) ag)[(j - 1).toNat]? = some y:=⟨_,AU (by have q1:BW af i j.toNat:=‹_›; (rw [List.length_set]; omega))⟩
   obtain ⟨_,⟨bF,dp,bG,rfl,aQ⟩,aJ⟩:=au.elem ((j - 1).toNat) al ax
   replace aQ:=aQ.Bl (fun _ _ h=>h.1)
   have bU:=aQ.len
   subst bU
   replace aJ:Has cy ⟨r,0+((j - 1).toNat) * Rep.sz Pst,none⟩ [vT al.tag.key,vT al.tag.val,.slice bF al.ids.length bG]:=by rw [Nat.zero_add]; exact aJ
   refine RG.EH (t':=117) (i:=((j - 1).toNat)) (k:=0) (v:=.agg #[vT ae.tag.key,vT ae.tag.val,.slice aW ae.ids.length aX]) (cs:=[vT al.tag.key,vT al.tag.val,.slice bF al.ids.length bG]) ae au ax aJ AA AA AA ⟨_,_,_,rfl,aj.oi⟩ fun dq bV bg bW=>?_
   replace ⟨aa,E,ac⟩:=(s1 bg).g3 aa E ac
   exact .d<|.ib 3<|.g<|.r 1<|.it (j - 1)<|.r 1<|.d<|aB (j - 1,((af.set (j.toNat) ag).set ((j - 1).toNat) ae)) _ _ ⟨AA,AA,AA,AA,AA,AA,trivial⟩ ⟨ac,bV,AB,(by exact Kj ‹_› ‹_› ‹_› ‹_›),(by exact BW.UU ‹_› ‹_› ‹_› ‹_› ‹_›)⟩ (by (simp only []; omega))
  obtain ⟨_,⟨bh,dt,bi,rfl,ai⟩,aK⟩:=ab.elem (j.toNat) ae ak
  replace ai:=ai.Bl (fun _ _ h=>h.1)
  have bX:=ai.len
  subst bX
  replace aK:Has cq ⟨r,0+(j.toNat) * Rep.sz Pst,none⟩ [vT ae.tag.key,vT ae.tag.val,.slice bh ae.ids.length bi]:=by rw [Nat.zero_add]; exact aK
  refine GE.GU (t':=117) 0 [vT ae.tag.key,vT ae.tag.val,.slice bh ae.ids.length bi] aK AA AA AA fun cA bj=>?_
  replace ⟨ab,ai,aa,E,ac⟩:=(se [r] bj).g5 ab ai aa E ac
  refine .go 9 ?_
  obtain ⟨_,⟨bk,du,bm,rfl,ao⟩,aL⟩:=ab.elem ((j - 1).toNat) ag aC
  replace ao:=ao.Bl (fun _ _ h=>h.1)
  have bY:=ao.len
  subst bY
  replace aL:Has cA ⟨r,0+((j - 1).toNat) * Rep.sz Pst,none⟩ [vT ag.tag.key,vT ag.tag.val,.slice bk ag.ids.length bm]:=by rw [Nat.zero_add]; exact aL
  refine GE.GU (t':=117) 0 [vT ag.tag.key,vT ag.tag.val,.slice bk ag.ids.length bm] aL AA AA AA fun cB bn=>?_
  replace ⟨ab,ai,ao,aa,E,ac⟩:=(se [r] bn).g6 ab ai ao aa E ac
  have bZ:j.toNat< n:=(by have q1:BW af i j.toNat:=‹_›; omega)
  refine GA.idx (i:=14) (b:=r) (o:=0) (j.toNat) (len:=n) (z:=j) (sz:=3) AA (by have q1:BW af i j.toNat:=‹_›; omega) bZ rfl<|.go 15 ?_
  obtain ⟨_,⟨bH,dv,bI,rfl,bo⟩,aM⟩:=ab.elem (j.toNat) ae ak
  replace bo:=bo.Bl (fun _ _ h=>h.1)
  have b0:=bo.len
  subst b0
  replace aM:Has cB ⟨r,0+(j.toNat) * Rep.sz Pst,none⟩ [vT ae.tag.key,vT ae.tag.val,.slice bH ae.ids.length bI]:=by rw [Nat.zero_add]; exact aM
  refine GE.EH (t':=117) (q:=(j.toNat)) (k:=0) (v:=.agg #[vT ag.tag.key,vT ag.tag.val,.slice bk ag.ids.length bm]) (cs:=[vT ae.tag.key,vT ae.tag.val,.slice bH ae.ids.length bI]) ag ab ak aM ⟨_,_,_,rfl,ao.oi⟩ AA AA AA fun dw bq=>?_
  replace ⟨ab,ai,aa,E,ac⟩:=(se [r] bq).g5 ab ai aa E ac
  intro dx ay aN b6
  have hkeep_:=Chg.toS aN (Cov.toS bA)
  replace ⟨ai,aa,E,ac⟩:=(so [r] aN).g4 ai aa E ac
  refine ⟨hkeep_,?_⟩
  refine .d fun cC br=>?_
  replace ⟨ay,ai,aa,E,ac⟩:=(se [r] br).g5 ay ai aa E ac
  have b7:(j - 1).toNat< n:=(by have q1:BW af i j.toNat:=‹_›; omega)
  refine RG.idx (b:=r) (o:=0) ((j - 1).toNat) (len:=n) (i:=j - 1) (sz:=3) AA (by have q1:BW af i j.toNat:=‹_›; omega) b7 rfl ?_
  obtain ⟨am,az⟩:∃ y,(af.set (j.toNat) ag)[(j - 1).toNat]? = some y:=⟨_,AU (by have q1:BW af i j.toNat:=‹_›; (rw [List.length_set]; omega))⟩
  obtain ⟨_,⟨bJ,dy,bK,rfl,aR⟩,aO⟩:=ay.elem ((j - 1).toNat) am az
  replace aR:=aR.Bl (fun _ _ h=>h.1)
  have b8:=aR.len
  subst b8
  replace aO:Has cC ⟨r,0+((j - 1).toNat) * Rep.sz Pst,none⟩ [vT am.tag.key,vT am.tag.val,.slice bJ am.ids.length bK]:=by rw [Nat.zero_add]; exact aO
  refine RG.EH (t':=117) (i:=((j - 1).toNat)) (k:=0) (v:=.agg #[vT ae.tag.key,vT ae.tag.val,.slice bh ae.ids.length bi]) (cs:=[vT am.tag.key,vT am.tag.val,.slice bJ am.ids.length bK]) ae ay az aO AA AA AA ⟨_,_,_,rfl,ai.oi⟩ fun dz b9 bt cd=>?_
  replace ⟨aa,E,ac⟩:=(s1 bt).g3 aa E ac
  exact .d<|.ib 3<|.g<|.r 1<|.it (j - 1)<|.r 1<|.d<|aB (j - 1,((af.set (j.toNat) ag).set ((j - 1).toNat) ae)) _ _ ⟨AA,AA,AA,AA,AA,AA,trivial⟩ ⟨ac,b9,AB,(by exact Kj ‹_› ‹_› ‹_› ‹_›),(by exact BW.UU ‹_› ‹_› ‹_› ‹_› ‹_›)⟩ (by (simp only []; omega))
 refine .r [3]<|GA.skip AA fun dA bu=>?_
 replace ⟨ab,aa,E⟩:=(se [r] bu).g3 ab aa E
 exact .r 3<|.d<|.cf<|.x 2 rfl<|.ib 1<|.g<|.r 1<|.it ((i:Int)+1)<|.r 1<|.d<|aA (i+1,af) _ _ ⟨AA,AA,AA,AA,AA,trivial⟩ ⟨E,ab,AB,‹_›,(by exact BW.V4 ‹_› ‹_›)⟩ (by (simp only []; omega))
theorem QE {r n c:Nat}{xs0:List Pst}{z:Int}(ho:Own w r 117 F n c xs0) (hn:n≤12):Calls Tryz.prog 152 [.slice (some ⟨r,0,none⟩) n c,.int .i64 0,.int .i64 (n:Int),.int .i64 z,.func (.func 123) #[] #[]].toArray w (Am fun rv w'=>rv=.tuple #[]∧∃ zs,zs.Perm xs0∧zs.Pairwise Le∧Own w' r 117 F n c zs∧Chg (one r) w w'):=by
 refine goT func152 ?_
 replace ho:=ho.PV; have hnl:=ho.len
 refine .s<|.g<|.r 1<|.d<|.s<|.g<|.r 1<|.d<|.b 0<|T.loop (X:=Unit) () (fun _=>[(0,vS r n c),(1,vI 0),(2,vI (n:Int)),(3,vI z),(4,.func (.func 123) #[] #[]),(10,.bool true),(11,.bool true)]) (fun _ w_=>w_=w) (fun _=>0) AA ⟨AA,AA,AA,AA,AA,AA,AA,trivial⟩ rfl ?_
 rintro u_ e_ ai hw_ hl_; clear hl_; rw [hw_]; clear hw_
 refine .b 1<|.s<|.g<|.r 2<|.it ((n:Int) - 0)<|.r 1<|.d<|.s<|.s<|.g<|.r 1<|.bp ((n:Int) - 0≤12) (fun aa=>?_) (fun aa=>absurd (show False by omega) id)
 refine .d<|.ct<|.s<|.g<|.r 4<|.cl (Jl ho) ?_
 rintro aj ag ⟨rfl,ah,ab,ac,ae,E⟩
 have af:Chg (one r) w ag:=Chg.FW (Chg.refl (one r) w) E (Cov.mk1 w r)
 exact .d<|T.KH AA func152 results152 ⟨rfl,_,ab,ac,ae.NS,af⟩
theorem Od {w:World}{n:Nat}(h:n≤1000):Calls Tryz.prog 153 [.int .u64 (n:Int)].toArray w (Am fun rv w'=>∃ z:Int,rv=.int .i64 z∧Ext w w'):=by
 refine (RS (n:Int) w AB AB).mono ?_
 rintro e w' ⟨rfl,rfl⟩
 exact ⟨_,rfl,_,rfl,Ext.refl _⟩
theorem I6 {r n c:Nat}{xs0:List Pst}(ho:Own w r 117 F n c xs0) (hn:n≤12):Calls Tryz.prog 122 [.slice (some ⟨r,0,none⟩) n c,.func (.func 123) #[] #[]].toArray w (Am fun rv w'=>rv=.tuple #[]∧∃ zs,zs.Perm xs0∧zs.Pairwise Le∧Own w' r 117 F n c zs∧Chg (one r) w w'):=by
 refine goT func122 ?_
 replace ho:=ho.PV; have hnl:=ho.len
 refine .s<|.g<|.r 3<|.d<|.g<|.r 3<|RG.eqv (v:=.int .u64 (n:Int)) (v':=.int .u64 (IntKind.u64.wrap (n:Int))) AA (by rw [IntWalk.u64_in _ AB])<|.cl (Od (n:=n) AB) ?_
 rintro aj ag ⟨ah,rfl,E⟩
 replace ho:=(se [r] E).g1 ho
 have aa:Chg (one r) w ag:=Chg.GX (Chg.refl (one r) w) E
 refine .r 1<|.cl (QE ho AB (z:=ah)) ?_
 rintro ak al ⟨rfl,ai,ac,ae,af,ab⟩
 replace aa:=(s1 ab).g1 aa
 exact .d<|T.FR func122 results122 ⟨rfl,_,ac,ae,af.NS,aa⟩
end Go.Proofs.YtggnnidleedpaaaGreat
namespace Go.Proofs.YtggnnidleedpaaaGreat
structure RepP (xs:List Pst) (L:Tag→List Int):Prop where
 nd:(xs.map Pst.tag).Nodup
 el:∀ x∈xs,x.ids=L x.tag∧x.ids≠[]
 all:∀ t,L t≠[]→∃ x∈xs,x.tag=t
theorem RepP.add {xs:List Pst}{L:Tag→List Int}(h:RepP xs L) (k:Int) (t:Tag):RepP (Hf k xs t) (fun u=>L u++(if u=t then [k] else [])):=by
 rcases Lm t xs 0 with ⟨h1,h2⟩ | ⟨h1,h2,x,h3,h4⟩
 ·have hn:CM t 0 xs< 0:=by omega
  have hL:L t=[]:=by
   by_cases he:L t=[]
   ·exact he
   ·obtain ⟨x,hx,hxt⟩:=h.all t he
    exact absurd hxt (h2 x hx)
  rw [NP hn]
  refine ⟨?_,fun x hx=>?_,fun u hu=>?_⟩
  ·rw [List.map_append]
   refine List.nodup_append.2 ⟨h.nd,by simp,fun a ha b hb=>?_⟩
   simp at hb
   subst hb
   obtain ⟨x,hx,rfl⟩:=List.mem_map.1 ha
   exact h2 x hx
  ·rcases List.mem_append.1 hx with hx | hx
   ·have:=h.el x hx
    have hne:=h2 x hx
    rw [if_neg hne,List.append_nil]
    exact this
   ·simp at hx
    subst hx
    simp [hL]
  ·by_cases hut:u=t
   ·exact ⟨⟨t,[k]⟩,by simp,hut.symm⟩
   ·rw [if_neg hut,List.append_nil] at hu
    obtain ⟨x,hx,hxu⟩:=h.all u hu
    exact ⟨x,by simp [hx],hxu⟩
 ·have hn:¬ CM t 0 xs< 0:=by omega
  rw [Nat.sub_zero] at h3
  rw [NQ hn h3]
  generalize (CM t 0 xs).toNat=i at h3
  obtain ⟨hil,hie⟩:=List.getElem?_eq_some_iff.1 h3
  have hmap:(xs.set i ⟨x.tag,x.ids++[k]⟩).map Pst.tag=xs.map Pst.tag:=by
   rw [List.map_set]
   have h5:(xs.map Pst.tag)[i]'(by simpa using hil)=x.tag:=by simp [hie]
   have h6:=List.set_getElem_self (show i< (xs.map Pst.tag).length by simpa using hil)
   rw [h5] at h6
   exact h6
  refine ⟨by rw [hmap]; exact h.nd,fun y hy=>?_,fun u hu=>?_⟩
  ·obtain ⟨j,hj,hjy⟩:=List.mem_iff_getElem.1 hy
   rw [List.getElem_set] at hjy
   have hj2:j< xs.length:=by simpa using hj
   split at hjy
   ·subst hjy
    have:=h.el x (AV h3)
    simp only
    rw [if_pos h4,this.1]
    exact ⟨rfl,by simp⟩
   ·rename_i hij
    have hym:y∈xs:=hjy▸List.getElem_mem hj2
    have hne:¬ y.tag=t:=fun e=>hij (by
     have h5:(xs.map Pst.tag)[i]'(by simpa using hil)=(xs.map Pst.tag)[j]'(by simpa using hj2):=by simp [hie,hjy,h4,e]
     exact (List.getElem_inj (h₀:=by simpa using hil) (h₁:=by simpa using hj2) h.nd).1 h5)
    rw [if_neg hne,List.append_nil]
    exact h.el y hym
  ·have key:∃ y∈xs,y.tag=u:=by
    by_cases hut:u=t
    ·exact ⟨x,AV h3,h4.trans hut.symm⟩
    ·rw [if_neg hut,List.append_nil] at hu
     exact h.all u hu
   obtain ⟨y,hy,hyu⟩:=key
   have hm:u∈(xs.set i ⟨x.tag,x.ids++[k]⟩).map Pst.tag:=by rw [hmap]; exact List.mem_map.2 ⟨y,hy,hyu⟩
   obtain ⟨z,hz,hzu⟩:=List.mem_map.1 hm
   exact ⟨z,hz,hzu⟩
theorem RepP.congr {xs:List Pst}{L L':Tag→List Int}(h:RepP xs L) (e:∀ t,L t=L' t):RepP xs L':=by
 have:L=L':=funext e
 rw [← this]; exact h
theorem RepP.name (k:Int):∀ (n:List Tag) (xs:List Pst) (L:Tag→List Int),n.Nodup→RepP xs L→RepP (n.foldl (Hf k) xs) (fun u=>L u++(if has n u then [k] else [])):=by
 intro n
 induction n with
 | nil=>intro xs L _ h; exact h.congr (fun t=>by simp [has])
 | cons t ts ih =>
   intro xs L hn h
   rw [List.nodup_cons] at hn
   refine (ih _ _ hn.2 (h.add k t)).congr (fun u=>?_)
   rw [List.append_assoc]
   congr 1
   by_cases hu:u=t
   ·subst hu
    have:has ts u=false:=by
     unfold has
     rw [List.any_eq_false]
     intro y hy e
     exact hn.1 (by rw [← eq_of_beq e]; exact hy)
    rw [this]
    simp [has]
   ·have:(t==u)=false:=by rw [beq_eq_false_iff_ne]; exact fun e=>hu e.symm
    simp only [if_neg hu,List.nil_append,has,List.any_cons,this,Bool.false_or]
    rfl
theorem RepP.bld:∀ (ns:List (List Tag)) (i:Nat) (xs:List Pst) (L:Tag→List Int),(∀ n∈ns,n.Nodup)→RepP xs L→RepP (IH i xs ns) (fun u=>L u++HE u i ns):=by
 intro ns
 induction ns with
 | nil=>intro i xs L _ h; exact h.congr (fun t=>by simp [HE])
 | cons n ns ih =>
   intro i xs L hn h
   refine (ih (i+1) _ _ (fun m hm=>hn m (by simp [hm])) (RepP.name _ n xs L (hn n AD) h)).congr (fun u=>?_)
   rw [List.append_assoc,HE]
theorem RepP.V6 {names:List (List Tag)}(h:NmI names):RepP (IH 0 [] names) (ids names) :=
 (RepP.bld names 0 [] (fun _=>[]) (fun n hn=>(IA (h.ok n hn)).1) ⟨by simp,by simp,by simp⟩).congr (fun u=>by unfold ids; simp)
theorem RU {names:List (List Tag)}{t:Tag}(h:ids names t≠[]):∃ n∈names,t∈n:=by
 unfold ids at h
 have:∀ (ns:List (List Tag)) (i:Nat),HE t i ns≠[]→∃ n∈ns,t∈n:=by
  intro ns
  induction ns with
  | nil=>intro i h; simp [HE] at h
  | cons n ns ih =>
    intro i h
    rw [HE] at h
    by_cases hb:has n t=true
    ·refine ⟨n,by simp,?_⟩
     unfold has at hb
     rw [List.any_eq_true] at hb
     obtain ⟨y,hy,e⟩:=hb
     rw [← eq_of_beq e]; exact hy
    ·rw [if_neg hb,List.nil_append] at h
     obtain ⟨m,hm,ht⟩:=ih (i+1) h
     exact ⟨m,by simp [hm],ht⟩
 exact this names 0 h
theorem I7 {α:Type}[DecidableEq α]:∀ (l U:List α),l.Nodup→(∀ x∈l,x∈U)→l.length≤U.length:=by
 intro l
 induction l with
 | nil=>intro U _ _; simp
 | cons a l ih =>
   intro U hn hU
   rw [List.nodup_cons] at hn
   have ha:=hU a AD
   have:=ih (U.erase a) hn.2 (fun x hx=>(List.mem_erase_of_ne (fun e:x=a=>hn.1 (by rw [← e]; exact hx))).2 (hU x (by simp [hx])))
   rw [List.length_erase_of_mem ha] at this
   have:=List.length_pos_of_mem ha
   simp only [List.length_cons]; omega
def PW:List Tag:=[⟨[97],[112]⟩,⟨[97],[113]⟩,⟨[97],[122]⟩,⟨[98],[112]⟩,⟨[98],[113]⟩,⟨[98],[122]⟩,⟨[99],[112]⟩,⟨[99],[113]⟩,⟨[99],[122]⟩]
theorem QF {t:Tag}(h:BZ t=true) (hd:HG t):t∈PW:=by
 obtain ⟨k,v⟩:=t
 obtain ⟨h1,h2⟩:=hd
 simp only [BZ,AW] at h
 simp only [List.mem_cons,List.not_mem_nil,or_false] at h1 h2
 have hv:=D1 h.2
 have h3:v=[112]∨v=[113]∨v=[122]:=by
  rcases h2 with rfl | rfl | rfl | rfl | rfl | rfl
  ·exact .inl rfl
  ·exact .inr (.inl rfl)
  ·exact .inr (.inr rfl)
  ·simp at hv
  ·have:=h.2; simp [KQ,inR] at this
  ·simp at hv
 rcases h1 with rfl | rfl | rfl <;> rcases h3 with rfl | rfl | rfl <;> simp [PW]
theorem RV {names:List (List Tag)}(h:NmI names) (h2:NsD names):(IH 0 [] names).length≤12:=by
 have hr:=RepP.V6 h
 have:=I7 ((IH 0 [] names).map Pst.tag) PW hr.nd (fun t ht=>by
  obtain ⟨x,hx,rfl⟩:=List.mem_map.1 ht
  have g:=hr.el x hx
  obtain ⟨n,hn,ht⟩:=RU (by rw [← g.1]; exact g.2:ids names x.tag≠[])
  have ho:=h.ok n hn
  simp only [Aq,AW] at ho
  exact QF (E3 n none ho.1 _ ht) ((h2 n hn).2 _ ht))
 rw [List.length_map] at this
 have h9:PW.length=9:=rfl
 omega
theorem Oe {α:Type}{R:α→α→Prop}(hirr:∀ a,¬ R a a) (htr:∀ a b c,R a b→R b c→R a c):∀ (xs ys:List α),xs.Pairwise R→ys.Pairwise R→(∀ a,a∈xs↔a∈ys)→xs=ys:=by
 intro xs
 induction xs with
 | nil =>
   intro ys _ _ h
   cases ys with
   | nil=>rfl
   | cons y ys=>exact absurd ((h y).2 AD) AD
 | cons x xs ih =>
   intro ys hx hy h
   cases ys with
   | nil=>exact absurd ((h x).1 AD) AD
   | cons y ys =>
     rw [List.pairwise_cons] at hx hy
     have hxy:x=y:=by
      have h1:=(h x).1 AD
      have h2:=(h y).2 AD
      rcases List.mem_cons.1 h1 with h1 | h1
      ·exact h1
      ·rcases List.mem_cons.1 h2 with h2 | h2
       ·exact h2.symm
       ·exact absurd (htr _ _ _ (hy.1 x h1) (hx.1 y h2)) (hirr y)
     subst hxy
     congr 1
     refine ih ys hx.2 hy.2 (fun a=>⟨fun ha=>?_,fun ha=>?_⟩)
     ·rcases List.mem_cons.1 ((h a).1 (by simp [ha])) with rfl | h1
      ·exact absurd (hx.1 _ ha) (hirr _)
      ·exact h1
     ·rcases List.mem_cons.1 ((h a).2 (by simp [ha])) with rfl | h1
      ·exact absurd (hy.1 _ ha) (hirr _)
      ·exact h1
theorem RW {names:List (List Tag)}(h:NmI names) (_h2:NsD names){xs zs:List Pst}(hp:zs.Perm xs) (hs:zs.Pairwise Le) (he:xs=IH 0 [] names):(⟨names,zs⟩:Idx)=idxOf names:=by
 have hr:=RepP.V6 h
 rw [← he] at hr
 unfold idxOf
 congr 1
 have hnd:(zs.map Pst.tag).Nodup:=(hp.map Pst.tag).nodup_iff.2 hr.nd
 have hz:zs.Pairwise (fun a b=>EU a.tag b.tag=true):=by
  rw [List.pairwise_iff_getElem] at hs ⊢
  intro i j hi hj hij
  have h1:=hs i j hi hj hij
  unfold Le at h1
  rw [Mb] at h1
  cases h3:EU zs[i].tag zs[j].tag with
  | true=>rfl
  | false =>
    have e:=Lq h3 (by simpa using h1)
    have h5:(zs.map Pst.tag)[i]'(by simpa using hi)=(zs.map Pst.tag)[j]'(by simpa using hj):=by simpa using e
    have:=(List.getElem_inj (h₀:=by simpa using hi) (h₁:=by simpa using hj) hnd).1 h5
    omega
 refine Oe (R:=fun (a b:Pst)=>EU a.tag b.tag=true) (fun a ha=>by rw [Lo] at ha; cases ha) (fun a b c=>Gq) zs (Dg names) hz (MZ names) (fun p=>⟨fun hpz=>?_,fun hpp=>?_⟩)
 ·have g:=hr.el p (hp.mem_iff.1 hpz)
  obtain ⟨n,hn,ht⟩:=RU (by rw [← g.1]; exact g.2:ids names p.tag≠[])
  have:=RK (names:=names) ((IA (h.ok n hn)).2 _ ht) (by rw [← g.1]; exact List.length_pos_iff.2 g.2)
  rw [← g.1] at this
  exact this
 ·obtain ⟨g1,g2,_⟩:=P9 hpp
  obtain ⟨x,hx,hxt⟩:=hr.all p.tag (by rw [← g1]; exact List.length_pos_iff.1 g2)
  have g:=hr.el x hx
  have:x=p:=(Ey x p).2 ⟨hxt,by rw [g.1,hxt,g1]⟩
  exact this▸hp.mem_iff.2 hx
end Go.Proofs.YtggnnidleedpaaaGreat
namespace Go.Proofs.YtggnnidleedpaaaGreat
set_option maxRecDepth 100000
set_option maxHeartbeats 4000000
variable {w:World} {F:Nat→Prop} {a1:Option Addr} {n1 c1:Nat}
theorem GH (names:List (List Tag)) (h1:RepS w F a1 n1 c1 names) (p0:names.length≤7) (p1:∀ n∈names,n.length≤5) (p2:(IH 0 [] names).length≤12):Calls Tryz.prog 78 [.slice a1 n1 c1].toArray w (Am fun rv w'=>(∃ (y:Idx),VS (ge w.heap.size) w' (y:Idx) rv∧(y.names=names∧(NmI names→NsD names→y=idxOf names)))∧Ext w w'):=by
 refine goT func78 ?_
 obtain ⟨rfl,dG,h1⟩:=h1.tp
 refine .s<|.g<|.np 28 [AH,AH] fun ac cM bz bA aD cN=>?_
 have cO:=BV bz (Nat.le_refl _)
 replace h1:=(sn [] bA bz).g1 h1
 have am:=bA
 refine .d<|.s<|.g<|.r 1<|.cl (Ae names h1.ta AB (fun n hn=>by have:=p1 n hn; omega) (w:=cM) (F:=all)) ?_
 rintro d5 af ⟨⟨bw,bR,bS,rfl,aE,bq⟩,bX⟩
 have bY:=al1 aD.lt
 have cP:Gb w.heap.size cM.heap.size:=am.size
 have dH:=CD bq aD.lt
 have cQ:=FV bq am.size
 replace ⟨h1,aD,am⟩:=(sz [ac] bX bq).g3 h1 aD am
 replace aE:=Own.take (s0:=w.heap.size) (M:=[ac]) aE bY cP
 have dI:=aE.len
 have au:=aE.sl cQ
 replace h1:=(sd af [bw,ac] bw).g1 h1
 have cd:w.heap.size≤af.heap.size:=am.size
 replace au:RepS af (nin (GN w.heap.size af.heap.size ac) [ac]) _ _ _ _:=au.Wj.Bl (fun b _ h=>⟨h,by simp; exact h.2.2⟩)
 have h1c:=h1.V2; have hEc:=am; have hb2c:=aD
 refine .ns 0 117 [] fun aJ dB bB bC cR cS=>?_
 have cT:Cov nil af aJ:=Fp bB (Nat.le_refl _)
 replace au:=(sn [ac] bC bB).g1 au
 have ao:=bC
 have aq:Own (α:=Pst) dB aJ 117 (nin (ge w.heap.size) [aJ,ac]) 0 0 []:=Own.BN cR
 refine .r 1<|.np 28 [AH,AH] fun ae d6 br bZ cU cV=>?_
 have cW:=Ab br aq.lt
 have cX:=ao.cn br
 replace ⟨au,aq,ao⟩:=(sn [aJ,ac] bZ br).g3 au aq ao
 refine .sc [vS bw bR bS,vS aJ 0 0] cU fun d7 b0 cY cZ=>?_
 replace ⟨au,aq,ao⟩:=(so [ae,aJ,ac] b0).g3 au aq ao
 refine .d<|.s<|.s<|.g<|.r 3<|.d<|.b 0 ?_
 have hix:=IX.Wk (tX:=28) (tP:=117) (tI:=3) (s0:=w.heap.size) (s1:=af.heap.size) cd (GN.lt (b2:=ac)) au.w1 cY aq cW (Cov.ge cX) (Cov.ge cT)
 have hE:=ao
 refine T.loop (X:=Nat × Nat × Nat × List RP × List Pst × List Nat) (aJ,0,0,[],[],[]) (fun (r,c,k,ys,xs,rs)=>[(2,.pointer (some ⟨ac,0,none⟩)),(3,.pointer (some ⟨ae,0,none⟩)),(13,.slice a1 names.length c1),(14,vI (names.length:Int)),(15,vI (k:Int))]) (fun (r,c,k,ys,xs,rs) w_=>Ext af w_∧IX 28 117 3 w.heap.size af.heap.size (GN w.heap.size af.heap.size ac) w_ ae r c (some ⟨bw,0,none⟩) bR bS names ys xs rs∧k≤names.length∧xs.length≤5 * k∧(∀ x∈xs,x.ids.length≤5 * k)∧IH k xs (names.drop k)=IH 0 [] names) (fun (r,c,k,ys,xs,rs)=>names.length - k) AA ⟨AA,AA,AA,AA,AA,trivial⟩ ⟨hE,hix,by omega,by simp,by simp,rfl⟩ ?_
 rintro ⟨r,c,k,ys,xs,rs⟩ e1_ d8 ⟨hE,hix,hk,hxl,hil,hbl⟩ bT
 have hnm:=h1c.ext hE
 refine .s<|.g<|.bp ((k:Int)< (names.length:Int)) (fun c7=>?_) (fun c7=>?_)
 ·refine .d<|.s<|.ct<|.sk<|.s<|.b 1<|.s<|.g<|.r 1 ?_
  have c8:k< names.length:=AB
  refine .ix k 1 hnm c8 ?_
  obtain ⟨ak,aF⟩:∃ y,names[k]? = some y:=⟨_,AU AB⟩
  obtain ⟨_,⟨dC,d9,dD,rfl,ce⟩,c9⟩:=hnm.elem k ak aF
  have da:=ce.len
  subst da
  have dL:=ce.max
  refine .lh 0 c9<|.r 2<|.d<|.s<|.g<|.r 3<|.d<|.b 2 ?_
  have hEA:=hE; have ec:=p1 ak (AV aF)
  refine T.loop (X:=Nat × Nat × Nat × List RP × List Pst × List Nat) (r,c,0,ys,xs,rs) (fun (rq,cq,j,ab,aa,ah)=>[(2,.pointer (some ⟨ac,0,none⟩)),(3,.pointer (some ⟨ae,0,none⟩)),(4,vI (k:Int)),(13,.slice a1 names.length c1),(14,vI (names.length:Int)),(15,vI (k:Int)),(20,.slice dC ak.length dD),(21,vI (ak.length:Int)),(22,vI (j:Int))]) (fun (rq,cq,j,ab,aa,ah) w_=>Ext af w_∧IX 28 117 3 w.heap.size af.heap.size (GN w.heap.size af.heap.size ac) w_ ae rq cq (some ⟨bw,0,none⟩) bR bS names ab aa ah∧j≤ak.length∧aa.length≤5 * k+j∧(∀ x∈aa,x.ids.length≤5 * k+j)∧(ak.drop j).foldl (Hf ((k:Int)+1)) aa=ak.foldl (Hf ((k:Int)+1)) xs) (fun (rq,cq,j,ab,aa,ah)=>ak.length - j) AA ⟨AA,AA,AA,AA,AA,AA,AA,AA,AA,trivial⟩ ⟨hE,hix,by omega,by omega,fun x hx=>by have:=hil x hx; omega,rfl⟩ ?_
  rintro ⟨rq,cq,j,ab,aa,ah⟩ e2_ ee ⟨hE,hix,hj,b6,al,hfl⟩ bt
  have db:=ce.via hEA hE
  refine .s<|.g<|.bp ((j:Int)< (ak.length:Int)) (fun de=>?_) (fun de=>.d<|.s<|.cf<|.x 2 rfl<|.ib 1<|.g<|.it ((k:Int)+1)<|.r 1<|.d<|bT (rq,cq,k+1,ab,aa,ah) _ _ ⟨AA,AA,AA,AA,AA,trivial⟩ ⟨hE,hix,by omega,by omega,fun x hx=>by have:=al x hx; omega,Td hbl (Be aF) (FF hfl AB)⟩ (by (simp only []; omega)))
  refine .d<|.s<|.ct<|.sk<|.s<|.b 3<|.s<|.g ?_
  have df:j< ak.length:=AB
  refine .ix j 2 db df ?_
  obtain ⟨E,aG⟩:∃ y,ak[j]? = some y:=⟨_,AU AB⟩
  obtain ⟨_,rfl,dh⟩:=db.elem j E aG
  refine .lg 0 dh<|.np 67 [.string (bs []),.string (bs [])] fun dj ef bD bE dm cg=>?_
  have ci:∀ q_∈ae::rq::ah,Nb dj q_:=fun q_ hq_=>Ab bD (hix.lt q_ hq_)
  have bF:af.heap.size≤dj:=Nat.le_trans hE.size (Nat.le_of_eq (Eq.symm bD))
  replace hix:=hix.ext bE
  replace hE:=hE.trans bE
  refine .sc [vT E.key,vT E.val] dm fun dp aK ax cj=>?_
  replace hix:=hix.one aK ci bF
  replace hE:=Chg.FW hE aK ⟨.inr bF⟩
  refine .d<|.s<|.g<|.r 1<|.lb hix.box<|.r 1<|.cl (IF aa E (hix.rep.Bl (F':=all) (fun _ _ _=>trivial)) ax (w:=dp) (F:=all)) ?_
  rintro dN bG ⟨rfl,ay⟩
  replace ax:=ax.ext ay
  replace hix:=hix.ext ay
  replace hE:=hE.trans ay
  refine .r 1<|.d<|.s<|.s<|.g<|.r 1<|.bp (CM E 0 aa< 0) (fun ck=>?_) (fun ck=>?_)
  ·refine .d<|.ct<|.s<|.g<|.r 1<|.lb hix.box<|.r 2<|.d<|.g<|.r 1<|.lb hix.box<|.ln ax<|.r 1<|.ns 1 117 [vT E.key,vT E.val,AH] fun ar dO aL aM bH cm=>?_
   have bI:∀ q_∈ae::rq::ah,Nb ar q_:=fun q_ hq_=>Ab aL (hix.lt q_ hq_)
   have co:af.heap.size≤ar:=Nat.le_trans hE.size (Nat.le_of_eq (Eq.symm aL))
   replace hix:=hix.ext aM
   replace hE:=hE.trans aM
   have b7:=hix.lx; have dq:=hix.lr; have hvl_:=bH.lt; have hge_r:=hix.new rq AJ; have cp:=hix.new ae AI; have hEs:=hE.size
   refine RG.CW (T:=26) (ty:=26) (y:=(⟨E.key,E.val,none,0,0⟩:RP)) hix.own bH AA AA rfl ⟨trivial,bI rq AJ⟩ AB fun ag b8 dP cr bU aN=>?_
   replace hE:=Chg.FW hE aN ⟨.inr hge_r⟩
   refine .r 1<|.ss 1 (vS ag (ab.length+1) b8) (hix.box.chg aN (Nb.one hix.ne)) fun bJ aO cu cw=>?_
   replace hix:=hix.push (t:=⟨E.key,E.val⟩) (vb:=ar) hEs aN cr bU bI co hvl_ aO cu
   replace hE:=Chg.FW hE aO ⟨.inr cp⟩
   refine .d ?_
   obtain ⟨xi,hxi⟩:∃ q,(aa++[(⟨⟨E.key,E.val⟩,[]⟩:Pst)])[ab.length]? = some q:=⟨_,AU (by (simp; omega))⟩
   obtain ⟨yi,hyi⟩:∃ q,(ab++[(⟨E.key,E.val,none,0,0⟩:RP)])[ab.length]? = some q:=⟨_,AU (by (simp; done))⟩
   obtain ⟨ri,hri⟩:∃ q,(ah++[ar])[ab.length]? = some q:=⟨_,AU (by (simp; omega))⟩
   have hiy:ab.length< (ab++[(⟨E.key,E.val,none,0,0⟩:RP)]).length:=(List.getElem?_eq_some_iff.1 hyi).1
   have hl3_:ae< bJ.heap.size:=hix.lt _ AI; have hlr_:ag< bJ.heap.size:=hix.lt _ AJ; have hn3_:=hix.ne3 hri; have hnr_:=hix.ner hri
   refine .gd (mtb [ri] bJ.heap.size) 13 fun dt aP=>?_
   replace hix:=hix.ext aP
   replace hE:=hE.trans aP
   refine .r [0]<|.lb 1 hix.box (Cz (all_cons hn3_ all_nil) hl3_)<|.r [2,3]<|.lb 4 hix.box (Cz (all_cons hn3_ all_nil) hl3_)<|.r [5] ?_
   have cx:ab.length< (ab++[(⟨E.key,E.val,none,0,0⟩:RP)]).length:=AB
   refine GA.idx (i:=6) (b:=ag) (o:=0) ab.length (len:=(ab++[(⟨E.key,E.val,none,0,0⟩:RP)]).length) (z:=(ab.length:Int)) (sz:=3) AA AB cx rfl<|.r [7] ?_
   obtain ⟨_,rfl,aQ⟩:=hix.own.elem ab.length yi hyi
   replace aQ:Has dt ⟨ag,0+ab.length * Rep.sz RP,none⟩ [vT yi.key,vT yi.val,.slice yi.a yi.n yi.c]:=by rw [Nat.zero_add]; exact aQ
   refine .lh 8 2 aQ (Cz (all_cons hnr_ all_nil) hlr_)<|.r [9]<|GA.int (i:=10) ((k:Int)+1) AA AB<|.go 11<|.ns 1 3 [vI ((k:Int)+1)] fun dQ aR=>?_
   replace hix:=hix.ext aR
   replace hE:=hE.trans aR
   intro bK dR aS aT aU cy
   have cz:∀ q_∈ae::ag::(ah++[ar]),Nb bK q_:=fun q_ hq_=>Ab aS (hix.lt q_ hq_)
   replace hix:=hix.ext aT
   replace hE:=hE.trans aT
   refine .go 12<|GE.append (T:=34) (ty:=34) (args:=[.slice yi.a yi.n yi.c,vS bK 1 1]) AA fun dS az=>?_
   replace aU:=aU.ext az
   replace hix:=hix.ext az
   replace hE:=hE.trans az
   have hyn:=(hix.el ab.length xi yi ri hxi hyi hri).2.2.n; have hyl:xi.ids.length≤1000:=by have hm:=AV hxi; (rcases List.mem_append.1 hm with hm | hm; (have:=al _ hm; omega); (simp at hm; subst hm; simp))
   have bL:=hE.size; have hge_ri:=hix.new ri (IX.mi hri)
   obtain ⟨aH,bu,dT,bM,aV,bV,ai⟩:=LJ.app (P:=Tryz.prog) (T:=34) (ty:=34) (hix.el ab.length xi yi ri hxi hyi hri).2.2 AA aU (cz ri (IX.mi hri)) AB
   refine ⟨_,_,bM,Chg.toS ai (.inl AI),?_⟩
   replace hE:=Chg.FW hE ai ⟨.inr hge_ri⟩
   refine .d fun du aA=>?_
   replace ai:=Chg.trans ai (Ext.chg aA)
   replace aV:=aV.ext aA
   replace hE:=hE.trans aA
   have cA:ab.length< (ab++[(⟨E.key,E.val,none,0,0⟩:RP)]).length:=AB
   refine RG.idx (b:=ag) (o:=0) ab.length (len:=(ab++[(⟨E.key,E.val,none,0,0⟩:RP)]).length) (i:=(ab.length:Int)) (sz:=3) AA AB cA rfl<|.r 1 ?_
   have bN:=RR KB hix.own ai (Nb.one (hix.ner hri))
   obtain ⟨_,rfl,aW⟩:=bN.elem ab.length yi hyi
   replace aW:Has du ⟨ag,0+ab.length * Rep.sz RP,none⟩ [vT yi.key,vT yi.val,.slice yi.a yi.n yi.c]:=by rw [Nat.zero_add]; exact aW
   refine RG.EH (t':=34) (i:=ab.length) (k:=2) (v:=vS aH (yi.n+1) bu) (cs:=[vT yi.key,vT yi.val,.slice yi.a yi.n yi.c]) (⟨yi.key,yi.val,some ⟨aH,0,none⟩,yi.n+1,bu⟩:RP) bN hyi aW AA AA AA rfl fun dU cB aX cC=>?_
   have hge_r2:=hix.new ag AJ
   replace hix:=hix.upd (i:=ab.length) (z:=(k:Int)+1) bL hxi hyi hri ai aV bV aX (y':=(⟨yi.key,yi.val,some ⟨aH,0,none⟩,yi.n+1,bu⟩:RP)) rfl cB
   replace hE:=Chg.FW hE aX ⟨.inr hge_r2⟩
   refine .d<|.ib 3<|.g<|.it ((j:Int)+1)<|.r 1<|.d ?_
   have hxN:((aa++[(⟨⟨E.key,E.val⟩,[]⟩:Pst)]).set ab.length ⟨xi.tag,xi.ids++[(k:Int)+1]⟩)=Hf ((k:Int)+1) aa E:=(U3 hxi (by rw [← b7])).trans (NP ‹_›).symm
   have hbd:=NR ((k:Int)+1) aa E (5 * k+j) b6 al; rw [← hxN] at hbd
   have hfs:=E5 hfl (Be aG); rw [← hxN] at hfs
   exact bt (ag,b8,j+1,((ab++[(⟨E.key,E.val,none,0,0⟩:RP)]).set ab.length (⟨yi.key,yi.val,some ⟨aH,0,none⟩,yi.n+1,bu⟩:RP)),((aa++[(⟨⟨E.key,E.val⟩,[]⟩:Pst)]).set ab.length ⟨xi.tag,xi.ids++[(k:Int)+1]⟩),((ah++[ar]).set ab.length aH)) _ _ ⟨AA,AA,AA,AA,AA,AA,AA,AA,AA,trivial⟩ ⟨hE,hix,by omega,by have:=hbd.1; omega,fun x hx=>by have:=hbd.2 x hx; omega,hfs⟩ (by (simp only []; omega))
  refine .d<|.cf<|.sk ?_
  have b7:=hix.lx; have dq:=hix.lr; have hib:=Tc (t:=E) (xs:=aa) ‹_›
  obtain ⟨xi,hxi⟩:∃ q,aa[(CM E 0 aa).toNat]? = some q:=⟨_,AU AB⟩
  obtain ⟨yi,hyi⟩:∃ q,ab[(CM E 0 aa).toNat]? = some q:=⟨_,AU AB⟩
  obtain ⟨ri,hri⟩:∃ q,ah[(CM E 0 aa).toNat]? = some q:=⟨_,AU AB⟩
  have hiy:(CM E 0 aa).toNat< ab.length:=(List.getElem?_eq_some_iff.1 hyi).1
  have hl3_:ae< bG.heap.size:=hix.lt _ AI; have hlr_:rq< bG.heap.size:=hix.lt _ AJ; have hn3_:=hix.ne3 hri; have hnr_:=hix.ner hri
  refine .gd (mtb [ri] bG.heap.size) 13 fun dv aY=>?_
  replace hix:=hix.ext aY
  replace hE:=hE.trans aY
  refine .r [0]<|.lb 1 hix.box (Cz (all_cons hn3_ all_nil) hl3_)<|.r [2,3]<|.lb 4 hix.box (Cz (all_cons hn3_ all_nil) hl3_)<|.r [5] ?_
  have cD:(CM E 0 aa).toNat< ab.length:=AB
  refine GA.idx (i:=6) (b:=rq) (o:=0) ((CM E 0 aa).toNat) (len:=ab.length) (z:=CM E 0 aa) (sz:=3) AA AB cD rfl<|.r [7] ?_
  obtain ⟨_,rfl,aZ⟩:=hix.own.elem ((CM E 0 aa).toNat) yi hyi
  replace aZ:Has dv ⟨rq,0+((CM E 0 aa).toNat) * Rep.sz RP,none⟩ [vT yi.key,vT yi.val,.slice yi.a yi.n yi.c]:=by rw [Nat.zero_add]; exact aZ
  refine .lh 8 2 aZ (Cz (all_cons hnr_ all_nil) hlr_)<|.r [9]<|GA.int (i:=10) ((k:Int)+1) AA AB<|.go 11<|.ns 1 3 [vI ((k:Int)+1)] fun dV ba=>?_
  replace hix:=hix.ext ba
  replace hE:=hE.trans ba
  intro bO dW bd bg bh cE
  have cF:∀ q_∈ae::rq::ah,Nb bO q_:=fun q_ hq_=>Ab bd (hix.lt q_ hq_)
  replace hix:=hix.ext bg
  replace hE:=hE.trans bg
  refine .go 12<|GE.append (T:=34) (ty:=34) (args:=[.slice yi.a yi.n yi.c,vS bO 1 1]) AA fun dX aB=>?_
  replace bh:=bh.ext aB
  replace hix:=hix.ext aB
  replace hE:=hE.trans aB
  have hyn:=(hix.el (CM E 0 aa).toNat xi yi ri hxi hyi hri).2.2.n; have hyl:xi.ids.length≤1000:=by have hm:=AV hxi; (have:=al _ hm; omega)
  have bL:=hE.size; have hge_ri:=hix.new ri (IX.mi hri)
  obtain ⟨aI,bv,dY,bP,bi,bW,aj⟩:=LJ.app (P:=Tryz.prog) (T:=34) (ty:=34) (hix.el (CM E 0 aa).toNat xi yi ri hxi hyi hri).2.2 AA bh (cF ri (IX.mi hri)) AB
  refine ⟨_,_,bP,Chg.toS aj (.inl AI),?_⟩
  replace hE:=Chg.FW hE aj ⟨.inr hge_ri⟩
  refine .d fun dw aC=>?_
  replace aj:=Chg.trans aj (Ext.chg aC)
  replace bi:=bi.ext aC
  replace hE:=hE.trans aC
  have cG:(CM E 0 aa).toNat< ab.length:=AB
  refine RG.idx (b:=rq) (o:=0) ((CM E 0 aa).toNat) (len:=ab.length) (i:=CM E 0 aa) (sz:=3) AA AB cG rfl<|.r 1 ?_
  have bQ:=RR KB hix.own aj (Nb.one (hix.ner hri))
  obtain ⟨_,rfl,bj⟩:=bQ.elem ((CM E 0 aa).toNat) yi hyi
  replace bj:Has dw ⟨rq,0+((CM E 0 aa).toNat) * Rep.sz RP,none⟩ [vT yi.key,vT yi.val,.slice yi.a yi.n yi.c]:=by rw [Nat.zero_add]; exact bj
  refine RG.EH (t':=34) (i:=((CM E 0 aa).toNat)) (k:=2) (v:=vS aI (yi.n+1) bv) (cs:=[vT yi.key,vT yi.val,.slice yi.a yi.n yi.c]) (⟨yi.key,yi.val,some ⟨aI,0,none⟩,yi.n+1,bv⟩:RP) bQ hyi bj AA AA AA rfl fun dZ cH bk cI=>?_
  have hge_r2:=hix.new rq AJ
  replace hix:=hix.upd (i:=(CM E 0 aa).toNat) (z:=(k:Int)+1) bL hxi hyi hri aj bi bW bk (y':=(⟨yi.key,yi.val,some ⟨aI,0,none⟩,yi.n+1,bv⟩:RP)) rfl cH
  replace hE:=Chg.FW hE bk ⟨.inr hge_r2⟩
  refine .d<|.ib 3<|.g<|.it ((j:Int)+1)<|.r 1<|.d ?_
  have hxN:(aa.set ((CM E 0 aa).toNat) ⟨xi.tag,xi.ids++[(k:Int)+1]⟩)=Hf ((k:Int)+1) aa E:=(NQ ‹_› hxi).symm
  have hbd:=NR ((k:Int)+1) aa E (5 * k+j) b6 al; rw [← hxN] at hbd
  have hfs:=E5 hfl (Be aG); rw [← hxN] at hfs
  exact bt (rq,cq,j+1,(ab.set ((CM E 0 aa).toNat) (⟨yi.key,yi.val,some ⟨aI,0,none⟩,yi.n+1,bv⟩:RP)),(aa.set ((CM E 0 aa).toNat) ⟨xi.tag,xi.ids++[(k:Int)+1]⟩),(ah.set ((CM E 0 aa).toNat) aI)) _ _ ⟨AA,AA,AA,AA,AA,AA,AA,AA,AA,trivial⟩ ⟨hE,hix,by omega,by have:=hbd.1; omega,fun x hx=>by have:=hbd.2 x hx; omega,hfs⟩ (by (simp only []; omega))
 refine .d<|.s<|.cf<|.x 0 rfl<|.s<|.g<|.r 1 ?_
 have hEw:=hEc.trans hE; have hb2n:=hb2c.ext hE; have hb2l:=hb2c.lt; have hoP:=hix.V3 hb2l; have hNn:=hix.U2; have hb3n:=hix.box; have hn3r:=hix.ne
 have d0:Nb ae ac:=CD (hix.new _ AI) hb2l; have d3:Nb r ac:=CD (hix.new _ AJ) hb2l
 have hgr:Gb w.heap.size r:=Nat.le_trans cd (hix.new _ AJ)
 have hbe:=U4 hbl AB
 refine .lb hb3n<|.cl (I6 hoP (by rw [hix.lx,hbe]; exact p2)) ?_
 rintro d4 dx ⟨rfl,cJ,hperm_,hsort_,bm,bn⟩
 replace ⟨hNn,hb3n,hb2n⟩:=(so [ae,r,ac] bn).g3 hNn hb3n hb2n
 replace hEw:Chg nil w dx:=Chg.FW hEw bn ⟨.inr hgr⟩
 refine .d<|.s<|.g<|.ln hb3n<|.sc [vS bw bR bS,vS r ys.length c] hb2n fun b9 bo cK cL=>?_
 replace ⟨hNn,bm,hb3n⟩:=(so [ae,r,ac] bo).g3 hNn bm hb3n
 replace hEw:Chg nil w b9:=Chg.FW hEw bo ⟨.inr cO⟩
 refine .d ?_
 have dy:=bm.sl hgr
 replace hNn:=(sd b9 [ae,r,ac] r).g1 hNn
 exact .rb func78 results78 cK ⟨⟨((⟨names,cJ⟩:Idx):Idx),⟨_,rfl,⟨_,_,_,_,_,_,rfl,hNn.w1,dy.w1⟩⟩,(by exact ⟨rfl,fun a b=>RW a b hperm_ hsort_ hbe⟩)⟩,hEw⟩
theorem Bz (names:List (List Tag)) (h1:RepS w F a1 n1 c1 names) (p0:NmI names) (p1:NsD names):Calls Tryz.prog 78 [.slice a1 n1 c1].toArray w (Am fun rv w'=>VS (ge w.heap.size) w' (idxOf names:Idx) rv∧Ext w w'):=by
 refine (GH names h1 (by have:=p0.len; omega) (fun n hn=>(p1 n hn).1) (RV p0 p1)).mono ?_
 rintro e w' ⟨v,rfl,⟨y,hv,hy⟩,hx⟩
 exact ⟨v,rfl,by rw [← hy.2 p0 p1]; exact hv,hx⟩
end Go.Proofs.YtggnnidleedpaaaGreat
namespace Go.Proofs.YtggnnidleedpaaaGreat
theorem U5 {t:Tag}(h:BZ t=true):∃ x y,t=⟨[x],[y]⟩:=by
 obtain ⟨k,v⟩:=t
 simp only [BZ,AW] at h
 have h1:k.length=1:=D1 h.1
 have h2:v.length=1:=D1 h.2
 match k,v,h1,h2 with
 | [x],[y],_,_=>exact ⟨x,y,rfl⟩
theorem QG:∀ (n m:List Tag) (i:Nat),(∀ t∈n,BZ t=true)→(∀ t∈m,BZ t=true)→ET i n=ET i m→n=m:=by
 intro n
 induction n with
 | nil =>
   intro m i _ hm h
   cases m with
   | nil=>rfl
   | cons t ts =>
     obtain ⟨x,y,rfl⟩:=U5 (hm t AD)
     simp [ET,HP] at h
 | cons t ts ih =>
   intro m i hn hm h
   obtain ⟨x,y,rfl⟩:=U5 (hn t AD)
   cases m with
   | nil=>simp [ET,HP] at h
   | cons u us =>
     obtain ⟨x',y',rfl⟩:=U5 (hm u AD)
     simp only [ET,HP,List.append_assoc] at h
     have h2:=List.append_cancel_left h
     simp only [List.cons_append,List.nil_append,List.cons.injEq,true_and] at h2
     obtain ⟨rfl,rfl,h3⟩:=h2
     rw [ih us (i+1) (fun t ht=>hn t (by simp [ht])) (fun t ht=>hm t (by simp [ht])) h3]
theorem JU {n:List Tag}(h:Aq n=true):∀ t∈n,BZ t=true:=by
 simp only [Aq,AW] at h
 exact E3 n none h.1
theorem NT {n m:List Tag}(hn:Aq n=true) (hm:Aq m=true) (h:text n=text m):n=m:=QG n m 0 (JU hn) (JU hm) h
theorem U6 {names:List (List Tag)}{n:List Tag}(h:∀ m∈names,Aq m=true) (hn:Aq n=true):∀ i,nmF (text n) i names=DZ n i names+1:=by
 induction names with
 | nil=>intro i; rfl
 | cons x xs ih =>
   intro i
   unfold nmF DZ
   by_cases hx:x=n
   ·rw [if_pos (by simp [hx]),if_pos (by simp [hx])]
   ·have h1:¬ (text x==text n)=true:=fun e=>hx (NT (h x AD) hn (eq_of_beq e))
    have h2:¬ (x==n)=true:=fun e=>hx (eq_of_beq e)
    rw [if_neg h1,if_neg h2]
    exact ih (fun m hm=>h m (by simp [hm])) (i+1)
theorem Gr {x:Idx}{n:List Tag}(h:NmI x.names) (hn:Aq n=true):GP x n=DZ n 0 x.names+1:=U6 h.ok hn 0
def CH (x:Idx) (n:List Tag):Idx × Int × Bool:=if Aq n=true then BQ x n else (⟨[],[]⟩,0,false)
theorem Mc {x:Idx}{n:List Tag}(h:Aq n=false):CH x n=(⟨[],[]⟩,0,false):=by unfold CH; rw [if_neg (by simp [h])]
theorem HA {x:Idx}{n:List Tag}(h:Aq n=true):CH x n=BQ x n:=by unfold CH; rw [if_pos h]
theorem Kk {x:Idx}{n:List Tag}(hx:IxI x) (h:Aq n=true) (h1:DZ n 0 x.names+1 > 0):CH x n=(idxOf x.names,DZ n 0 x.names+1,true):=by
 rw [HA h,Gc (by rw [Gr hx.nm h]; exact h1),Gr hx.nm h,← hx.eq]
theorem I8 {x:Idx}{n:List Tag}(hx:IxI x) (h:Aq n=true) (h1:¬ DZ n 0 x.names+1 > 0) (h2:(x.names.length:Int)=6):CH x n=(idxOf x.names,0,false):=by
 rw [HA h,FB (by rw [Gr hx.nm h]; exact h1) (.inr AB),← hx.eq]
theorem Fh {x:Idx}{n:List Tag}(hx:IxI x) (h:Aq n=true) (h1:¬ DZ n 0 x.names+1 > 0) (h2:(x.names.length:Int)≠6):CH x n=(idxOf (x.names++[n]),(x.names.length:Int)+1,true):=by
 rw [HA h,Ge (by rw [Gr hx.nm h]; exact h1) h (by have:=hx.nm.len; omega)]
theorem NmI.V7 {x:Idx}{n:List Tag}(hx:IxI x) (h:Aq n=true) (h1:¬ DZ n 0 x.names+1 > 0) (h2:(x.names.length:Int)≠6):NmI (x.names++[n]):=by
 refine NmI.add (ps:=x.AY) hx.nm h ?_ (by have:=hx.nm.len; omega)
 have:=Gr (x:=⟨x.names,x.AY⟩) hx.nm h
 rw [this]; exact h1
theorem NsD.add {names:List (List Tag)}{n:List Tag}(h:NsD names) (hn:NmD n):NsD (names++[n]):=fun m hm=>by
 rcases List.mem_append.1 hm with hm | hm
 ·exact h m hm
 ·simp at hm; rw [hm]; exact hn
theorem Lr:∀ (is:List Int) (bs:List (List Row)) (o:Option Int),Bo o is bs=true→(∀ q,o=some q→∀ i∈is,q< i)∧∀ m,K9 m is=(match is.getLast? with | some l=>if l > m then l else m | none=>m)∨is=[]:=by
 intro is
 induction is with
 | nil=>intro bs o _; exact ⟨fun _ _ i hi=>(by cases hi),fun m=>.inr rfl⟩
 | cons x xs ih =>
   intro bs o h
   cases bs with
   | nil=>simp [Bo] at h
   | cons b bs =>
     simp only [Bo,AW] at h
     obtain ⟨⟨⟨⟨_,h2⟩,_⟩,_⟩,h5⟩:=h
     obtain ⟨g1,g2⟩:=ih bs (some x) h5
     refine ⟨fun q hq i hi=>?_,fun m=>.inl ?_⟩
     ·subst hq
      have hqx:q< x:=by simpa using h2
      rcases List.mem_cons.1 hi with rfl | hi
      ·exact hqx
      ·have:=g1 x rfl i hi; omega
     ·unfold K9
      rcases g2 (if x > m then x else m) with g | g
      ·rw [g]
       cases hl:xs.getLast? with
       | none =>
         have:xs=[]:=List.getLast?_eq_none_iff.1 hl
         subst this
         simp
       | some l =>
         have hlm:=g1 x rfl l (List.mem_of_getLast? hl)
         have e:(x::xs).getLast? = some l:=by rw [List.getLast?_cons,hl]; rfl
         rw [e]
         simp only
         repeat' split
         all_goals omega
      ·subst g
       simp [K9]
theorem Kl {p:Prt}{n:Int}(h:Au p=true) (h0:(p.ids.length:Int)≠0):Bk p n = !decide (maxOf p.ids > n):=by
 unfold Bk
 rw [h,Bool.true_and]
 unfold Au at h
 simp only [AW,decide_eq_true_eq] at h
 match hi:p.ids,h.2 with
 | [],_=>rw [hi] at h0; simp at h0
 | x :: xs, hg =>
   cases hb:p.blocks with
   | nil=>rw [hb] at hg; simp [Bo] at hg
   | cons b bs =>
     rw [hb] at hg
     simp only [Bo,AW] at hg
     obtain ⟨g1,g2⟩:=Lr xs bs (some x) hg.2
     show (match (x::xs).getLast? with | some i=>decide (i≤n) | none=>false) = !decide (K9 x xs > n)
     rcases g2 x with g | g
     ·rw [g]
      cases hl:xs.getLast? with
      | none =>
        have:xs=[]:=List.getLast?_eq_none_iff.1 hl
        subst this
        simp only [List.getLast?_singleton]
        rw [Bool.eq_iff_iff]; simp
      | some l =>
        have hlm:=g1 x rfl l (List.mem_of_getLast? hl)
        have e:(x::xs).getLast? = some l:=by rw [List.getLast?_cons,hl]; rfl
        rw [e]
        simp only
        simp only [show l > x from hlm,if_true]
        rw [Bool.eq_iff_iff]; simp
     ·subst g
      simp only [List.getLast?_singleton,K9]
      rw [Bool.eq_iff_iff]; simp
theorem RX {p:Prt}{n:Int}(h:Au p=false):Bk p n=false:=by unfold Bk; rw [h]; rfl
theorem RY {p:Prt}{n:Int}(h:(p.ids.length:Int)=0):Bk p n=false:=by
 have:p.ids=[]:=List.eq_nil_of_length_eq_zero AB
 unfold Bk; rw [this]; simp
theorem RZ {p:Prt}{n:Int}(h:Au p=true) (h0:(p.ids.length:Int)≠0) (h1:maxOf p.ids > n):Bk p n=false:=by rw [Kl h h0]; simp [h1]
theorem Ra {p:Prt}{n:Int}(h:Au p=true) (h0:(p.ids.length:Int)≠0) (h1:¬ maxOf p.ids > n):Bk p n=true:=by rw [Kl h h0]; simp [h1]
theorem Et {p:Prt}{n:Int}(h:Bk p n=true):Au p=true:=by
 unfold Bk at h
 simp only [AW] at h
 exact h.1
structure StoK (s:Sto):Prop where
 sd:SD s
 part:∀ p∈s.parts,PrtI p∧Au p=true
 row:∀ m∈s.mem,BU m.row=true
 id:∀ m∈s.mem,1≤m.id∧m.id≤s.idx.names.length
 nm2:s.mem.length≤20
theorem StoK.of {s:Sto}(h:SD s) (hk:Ac s=true):StoK s:=by
 unfold Ac at hk
 simp only [AW,decide_eq_true_eq,List.all_eq_true] at hk
 obtain ⟨⟨⟨⟨_,h2⟩,h3⟩,h4⟩,_⟩:=hk
 refine ⟨h,fun p hp=>⟨h.part p hp,Et (h3 p hp)⟩,fun m hm=>?_,fun m hm=>?_,h2⟩
 ·have:=h4 m hm
  unfold Eh at this
  simp only [AW] at this
  exact this.2
 ·have:=h4 m hm
  unfold Eh at this
  simp only [AW] at this
  exact By this.1
theorem StoK.Jm {s:Sto}(h:StoK s):StoI s:=⟨h.sd.idx,h.sd.nm,h.sd.np,h.sd.part,h.nm2,fun m hm=>⟨(h.id m hm).1,(h.id m hm).2,h.row m hm⟩⟩
theorem StoK.pt {s:Sto}(h:SD s) (h3:s.parts.all (fun p=>Bk p s.idx.names.length)=true):∀ p∈s.parts,PrtI p∧Au p=true:=fun p hp=>⟨h.part p hp,Et (List.all_eq_true.1 h3 p hp)⟩
theorem StoK.rw {s:Sto}(h4:s.mem.all (Eh s.idx.names.length)=true):∀ m∈s.mem,BU m.row=true:=fun m hm=>by
 have:=List.all_eq_true.1 h4 m hm
 unfold Eh at this
 simp only [AW] at this
 exact this.2
def HU (s:Sto) (id:Int):List Row:=if Ac s=true∧inR id 1 s.idx.names.length=true then rowsOf s id else []
theorem QH {s:Sto}{id:Int}(h:Ac s=true) (h2:inR id 1 s.idx.names.length=true):HU s id=rowsOf s id:=by unfold HU; rw [if_pos ⟨h,h2⟩]
section
variable {s:Sto} {n:List Tag} {r:Row}
theorem U7 (_h:SD s) (hn:Aq n=true) (h1:(CH s.idx n).2.2=false):CA s n r=(s,false):=by rw [HA hn] at h1; exact KW h1
theorem U8 (_h:SD s) (_hn:Aq n=true) (h1:BU r=false):CA s n r=(s,false):=KX h1
theorem U9 (_h:SD s) (_hn:Aq n=true) (h1:(s.mem.length:Int)=20):CA s n r=(s,false):=ON AB
theorem UW (h:Ac s=true):s.mem.length≤20:=by
 unfold Ac at h
 simp only [AW,decide_eq_true_eq] at h
 exact h.1.1.1.2
theorem VA (_h:SD s) (hk:Ac s=true) (hn:Aq n=true) (h1:(CH s.idx n).2.2=true) (h2:BU r=true) (h3:(s.mem.length:Int)≠20)
 (h4:((rowsOf (⟨⟨(CH s.idx n).1.names,(CH s.idx n).1.AY⟩,(AZ s).parts,(AZ s).mem++[⟨(CH s.idx n).2.1,r⟩]⟩:Sto) (CH s.idx n).2.1).length:Int) > 24):CA s n r=(s,false):=by
 rw [HA hn] at h1 h4
 have:=UW hk
 exact Fy h1 h2 AB h4
theorem VB (_h:SD s) (hk:Ac s=true) (hn:Aq n=true) (h1:(CH s.idx n).2.2=true) (h2:BU r=true) (h3:(s.mem.length:Int)≠20)
 (h4:¬ ((rowsOf (⟨⟨(CH s.idx n).1.names,(CH s.idx n).1.AY⟩,(AZ s).parts,(AZ s).mem++[⟨(CH s.idx n).2.1,r⟩]⟩:Sto) (CH s.idx n).2.1).length:Int) > 24):CA s n r=(⟨(CH s.idx n).1,s.parts,s.mem++[⟨(CH s.idx n).2.1,r⟩]⟩,true):=by
 rw [HA hn] at h1 h4 ⊢
 have:=UW hk
 exact F0 h1 h2 AB h4
theorem Rc (h:SD s) (hk:Ac s=true) (hn:Aq n=true) (h1:(CH s.idx n).2.2=false):BS s n r=(AZ s,false):=by rw [Gn hk hn,h.copy]; exact U7 h hn h1
theorem Rd (h:SD s) (hk:Ac s=true) (hn:Aq n=true) (h1:BU r=false):BS s n r=(AZ s,false):=by rw [Gn hk hn,h.copy]; exact U8 h hn h1
theorem Re (h:SD s) (hk:Ac s=true) (hn:Aq n=true) (h1:(s.mem.length:Int)=20):BS s n r=(AZ s,false):=by rw [Gn hk hn,h.copy]; exact U9 h hn h1
theorem Rf (h:SD s) (hk:Ac s=true) (hn:Aq n=true) (h1:(CH s.idx n).2.2=true) (h2:BU r=true) (h3:(s.mem.length:Int)≠20)
 (h4:((rowsOf (⟨⟨(CH s.idx n).1.names,(CH s.idx n).1.AY⟩,(AZ s).parts,(AZ s).mem++[⟨(CH s.idx n).2.1,r⟩]⟩:Sto) (CH s.idx n).2.1).length:Int) > 24):BS s n r=(AZ s,false):=by
 rw [Gn hk hn,h.copy]; exact VA h hk hn h1 h2 h3 h4
theorem Rh (h:SD s) (hk:Ac s=true) (hn:Aq n=true) (h1:(CH s.idx n).2.2=true) (h2:BU r=true) (h3:(s.mem.length:Int)≠20)
 (h4:¬ ((rowsOf (⟨⟨(CH s.idx n).1.names,(CH s.idx n).1.AY⟩,(AZ s).parts,(AZ s).mem++[⟨(CH s.idx n).2.1,r⟩]⟩:Sto) (CH s.idx n).2.1).length:Int) > 24):BS s n r=(⟨(CH s.idx n).1,(AZ s).parts,(AZ s).mem++[⟨(CH s.idx n).2.1,r⟩]⟩,true):=by
 have:=VB h hk hn h1 h2 h3 h4
 rw [Gn hk hn,h.copy]
 exact this
theorem Te {i:Int}(h:StoK s) (hr:BU r=true):∀ m∈(AZ s).mem++[⟨i,r⟩],BU m.row=true:=fun m hm=>by
 rcases List.mem_append.1 hm with hm | hm
 ·exact h.row m hm
 ·simp at hm; subst hm; exact hr
end
end Go.Proofs.YtggnnidleedpaaaGreat
namespace Go.Proofs.YtggnnidleedpaaaGreat
def nmB (names:List (List Tag)):Bool:=decide (names.length≤6)&&names.all Aq&&decide ((names.map text).Nodup)
theorem D4 {names:List (List Tag)}:nmB names=true↔NmI names:=by
 unfold nmB
 simp only [AW,decide_eq_true_eq,List.all_eq_true]
 exact ⟨fun h=>⟨h.1.1,h.1.2,h.2⟩,fun h=>⟨⟨h.len,h.ok⟩,h.nodup⟩⟩
theorem Ri {names:List (List Tag)}(h:¬ NmI names):nmB names=false:=by
 cases hb:nmB names with
 | false=>rfl
 | true=>exact absurd (D4.1 hb) h
structure NmG (names:List (List Tag)):Prop where
 len:names.length≤7
 nd:NsD names
 bl:(IH 0 [] names).length≤12
theorem NmG.of {names:List (List Tag)}(h:NmI names) (h2:NsD names):NmG names:=⟨by have:=h.len; omega,h2,RV h h2⟩
theorem NmG.sz {names:List (List Tag)}(h:NmG names):∀ n∈names,FZ n:=fun n hn=>(h.nd n hn).sz
theorem NmG.l5 {names:List (List Tag)}(h:NmG names):∀ n∈names,n.length≤5:=fun n hn=>(h.nd n hn).1
theorem Rj {names:List (List Tag)}(h:∀ (i j:Nat) (x y:List Tag),i< j→names[i]? = some x→names[j]? = some y→text x≠text y):(names.map text).Nodup:=by
 unfold List.Nodup
 rw [List.pairwise_iff_getElem]
 intro i j hi hj hij
 rw [List.getElem_map,List.getElem_map]
 exact h i j _ _ hij (AU _) (AU _)
def Rk (names:List (List Tag)) (k:Nat):Prop:=∀ j n,j< k→names[j]? = some n→Aq n=true∧DZ n 0 names=j
theorem VC (names:List (List Tag)):Rk names 0:=fun j _ h=>absurd h AB
theorem QI {names:List (List Tag)}{k:Nat}{n:List Tag}(h:Rk names k) (hn:names[k]? = some n) (h1:Aq n=true) (h2:DZ n 0 names+1=(k:Int)+1):Rk names (k+1):=fun j m hj hm=>by
 by_cases e:j=k
 ·subst e
  rw [hn] at hm
  cases hm
  exact ⟨h1,by omega⟩
 ·exact h j m AB hm
theorem PX {names:List (List Tag)}{k:Nat}{n:List Tag}(hn:names[k]? = some n) (h:Aq n=false∨DZ n 0 names+1≠(k:Int)+1):false=nmB names:=(Ri (fun hI=>TX hI hn h)).symm
theorem Rl {names:List (List Tag)}{k:Nat}(h:Rk names k) (hk:names.length≤k):decide ((names.length:Int)≤6)=nmB names:=by
 unfold nmB
 have h1:names.all Aq=true:=List.all_eq_true.2 (fun n hn=>by
  obtain ⟨j,hj⟩:=List.mem_iff_getElem?.1 hn
  exact (h j n (by have:=(List.getElem?_eq_some_iff.1 hj).1; omega) hj).1)
 have h2:(names.map text).Nodup:=Rj (fun i j x y hij hx hy e=>by
  have hj:=(List.getElem?_eq_some_iff.1 hy).1
  have a:=h i x AB hx
  have b:=h j y AB hy
  have:=NT a.1 b.1 e
  subst this
  omega)
 rw [h1,decide_eq_true h2,Bool.and_true,Bool.and_true,decide_eq_decide]
 omega
def apart (names:List (List Tag)) (n:List Tag) (k:Nat):Prop:=∀ i m,i< k→names[i]? = some m→text n≠text m
theorem Tf {names:List (List Tag)}(h:(names.length:Int) > 6):false=nmB names:=(Ri (fun hI=>by have:=hI.len; omega)).symm
structure IxG (x:Idx):Prop where
 g:NmG x.names
 eq:NmI x.names→x=idxOf x.names
theorem IxG.ix {x:Idx}(h:IxG x) (h2:NmI x.names):IxI x:=⟨h.eq h2,h2⟩
structure SG (s:Sto):Prop where
 ix:IxG s.idx
 np:s.parts.length≤7
 part:∀ p∈s.parts,PrtI p
 nm2:s.mem.length≤21
 mem:∀ m∈s.mem,0≤m.id∧m.id≤7∧FD m.row
theorem SG.pt {s:Sto}(h:SG s) (h3:s.parts.all (fun p=>Bk p s.idx.names.length)=true):∀ p∈s.parts,PrtI p∧Au p=true:=fun p hp=>⟨h.part p hp,Et (List.all_eq_true.1 h3 p hp)⟩
theorem SG.of {s:Sto}(h:SD s):SG s:=⟨⟨NmG.of h.nm h.nd,fun _=>h.idx⟩,by have:=h.np; omega,h.part,h.nm2,h.mem⟩
theorem SG.sd {s:Sto}(h:SG s) (h2:nmB s.idx.names=true) (h3:s.parts.length≤6):SD s:=⟨h.ix.eq (D4.1 h2),D4.1 h2,h.ix.g.nd,h3,h.part,h.nm2,h.mem⟩
end Go.Proofs.YtggnnidleedpaaaGreat
namespace Go.Proofs.YtggnnidleedpaaaGreat
set_option maxRecDepth 100000
set_option maxHeartbeats 4000000
variable {w:World} {F:Nat→Prop} {a1 a2 a3 a4:Option Addr} {n1 c1 n2 c2 n3 c3 n4 c4:Nat}
theorem Jn (names:List (List Tag)) (h1:RepS w F a1 n1 c1 names) (p0:NmG names):Calls Tryz.prog 129 [.slice a1 n1 c1].toArray w (Am fun rv w'=>rv=.bool (nmB names)∧Ext w w'):=by
 cases h1.len
 refine goT func129 ?_
 have Z:=(St.i0 F w).p h1
 have ag:=h1.max
 refine .s<|.g<|.r 1<|.d<|.s<|.s<|.g<|.r 3<|.d<|.b 0<|T.Lp (0:Nat) (fun k=>([(0,.slice a1 names.length c1),(5,.slice a1 names.length c1),(6,vI (names.length:Int)),(7,vI (k:Int))],[],[],names.length - k,(k≤names.length)∧(Rk names k))) [] Z ⟨AD,(by exact VC _)⟩ ?_
 rintro k al w Z ⟨ah,ai⟩ aa
 refine .s<|.g<|.bp ((k:Int)< (names.length:Int)) (fun ac=>?_) (fun ac=>.d<|.s<|.cf<|.x 0 rfl<|.s<|.g<|.r 4<|.d<|T.rt func129 results129 (.bool (decide ((names.length:Int)≤6))) ⟨(AG (by exact Rl ‹_› AB)),Z.xt⟩)
 refine .d<|.s<|.ct<|.sk<|.s<|.b 1<|.s<|.g<|.r 1<|gx names k fun ab E=>RG.Ix 0 E Z<|Z.el 0 E fun am ao Z=>RG.Lh 0 0 Z<|.r 2<|.d<|.s<|.g<|.r 1<|RG.C0 (DY ab (Z.a 1)) Z fun w Z=>?_
 cases ak:(Aq ab)
 ·exact .r 9<|.d<|.ct<|.s<|.g<|.r 1<|.d<|T.rt func129 results129 (.bool false) ⟨(AG (by exact PX ‹_› (.inl ‹_›))),Z.xt⟩
 exact .r 4<|RG.C0 (GG names ab (Z.a 2) (Z.a 1)) Z fun w Z=>.r 1<|.it ((k:Int)+1)<|.ne (DZ ab 0 names+1) ((k:Int)+1) (fun ae=>.r 1<|.d<|.ct<|.s<|.g<|.r 1<|.d<|T.rt func129 results129 (.bool false) ⟨(AG (by exact PX ‹_› (.inr ‹_›))),Z.xt⟩) fun ae=>.r 1<|.d<|.cf<|.sk<|.ib 1<|.g<|.it ((k:Int)+1)<|.r 1<|.d<|aa (k+1) _ _ AA (Z.to 0 [] 2) ⟨AB,(by exact QI ‹_› ‹_› ‹_› ‹_›)⟩ (by (simp only []; omega))
theorem GI (ix:Idx) (h1:RepS w F a1 n1 c1 ix.names) (h2:RepS w F a2 n2 c2 ix.AY) (p0:IxG ix):Calls Tryz.prog 85 [.agg #[.slice a1 n1 c1,.slice a2 n2 c2]].toArray w (Am fun rv w'=>rv=.bool (nmB ix.names)∧Ext w w'):=by
 cases h1.len
 cases h2.len
 refine goT func85 ?_
 have Z:=((St.i0 F w).p h1).p h2
 refine .s<|.g<|RG.Np Z fun ac w Z=>.r 1<|.d<|.s<|T.Gd 10 Z fun w Z=>.r [0]<|GA.Lb 1 0 Z<|GA.C0 2 Z (fun w Z=>Jn ix.names (Z.a 1) p0.g) ?_
 cases ab:(nmB ix.names)
 ·exact .r [3]<|GA.Sk Z fun w Z=>.r 3<|.d<|T.rt func85 results85 (.bool false) ⟨(AG AF),Z.xt⟩
 exact .r [3,4]<|GA.Lb 5 0 Z<|.r [6]<|GA.Lb 7 0 Z<|.go 8<|GE.CS (fun w Z=>Bz ix.names (Z.a 1) (D4.1 ‹_›) p0.g.nd) Z fun ae af ag ah w Z=>.r [9]<|GA.Dn Z fun w Z=>RG.C0 (IG ix.AY ((idxOf ix.names).AY) (Z.a 2) (Z.a 1)) Z fun w Z=>.r 2<|.d<|T.rt func85 results85 (.bool (ix.AY==((idxOf ix.names).AY))) ⟨(AG (by (have p9:=p0.ix (D4.1 ‹_›); rw [p9.AY]; simp [idxOf]; done))),Z.xt⟩
theorem Ec (s:Sto) (h1:RepS w F a1 n1 c1 s.idx.names) (h2:RepS w F a2 n2 c2 s.idx.AY) (h3:RepS w F a3 n3 c3 s.parts) (h4:RepS w F a4 n4 c4 s.mem) (p0:SG s):Calls Tryz.prog 47 [.agg #[.slice a1 n1 c1,.slice a2 n2 c2,.slice a3 n3 c3,.slice a4 n4 c4]].toArray w (Am fun rv w'=>rv=.bool (nmB s.idx.names&&Ac s)∧Ext w w'):=by
 cases h1.len
 cases h2.len
 cases h3.len
 cases h4.len
 refine goT func47 ?_
 have Z:=((((St.i0 F w).p h1).p h2).p h3).p h4
 have az:=h1.max
 have aB:=h3.max
 have aC:=h4.max
 refine .s<|.g<|RG.Np Z fun ai w Z=>.r 1<|.d<|.s<|.s<|.g<|.r 1<|RG.Ln 0 Z<|RG.C0 (GI s.idx (Z.a 3) (Z.a 2) p0.ix) Z fun w Z=>?_
 cases aD:(nmB s.idx.names)
 ·exact .r 13<|.d<|.ct<|.s<|.g<|.r 1<|.d<|T.rt func47 results47 (.bool false) ⟨(AG AF),Z.xt⟩
 refine .r 3<|RG.Lb 0 Z<|.r 1<|.bp ((s.parts.length:Int) > 6) (fun aj=>.r 7<|.d<|.ct<|.s<|.g<|.r 1<|.d<|T.rt func47 results47 (.bool false) ⟨(AG (by (rw [Bool.true_and]; symm; exact Lj AB))),Z.xt⟩) fun aj=>.r 3<|RG.Lb 0 Z<|.r 1<|.bp ((s.mem.length:Int) > 20) (fun ak=>.r 1<|.d<|.ct<|.s<|.g<|.r 1<|.d<|T.rt func47 results47 (.bool false) ⟨(AG (by (rw [Bool.true_and]; symm; exact Lj AB))),Z.xt⟩) fun ak=>.r 1<|.d<|.cf<|.sk<|.s<|.g<|.r 2<|RG.Lb 0 Z<|.r 2<|.d<|.s<|.s<|.g<|.r 1<|RG.Lb 0 Z<|.r 2<|.d<|.b 0<|T.Lp (0:Nat) (fun k=>([(1,vP ai),(3,vI (s.idx.names.length:Int)),(30,.slice a3 s.parts.length c3),(31,vI (s.parts.length:Int)),(32,vI (k:Int))],[],[],s.parts.length - k,(k≤s.parts.length)∧((s.parts.drop k).all (fun p=>Bk p s.idx.names.length)=s.parts.all (fun p=>Bk p s.idx.names.length))∧(nmB s.idx.names=true))) [] Z ⟨AD,AF,‹_›⟩ ?_
 rintro k aX w Z ⟨aE,aF,aG⟩ ab
 refine .s<|.g<|.bp ((k:Int)< (s.parts.length:Int)) (fun al=>?_) (fun al=>?_)
 ·refine .d<|.s<|.ct<|.sk<|.s<|.b 1<|.s<|.g<|gxd s.parts k fun ac E aH=>RG.Ix 1 E Z<|Z.el 1 E fun aY aZ ba bd Z=>RG.Lg 0 0 Z<|RG.Np Z fun bg w Z=>RG.Ss 0 Z fun w Z=>.d<|.s<|.g<|RG.Ln 0 Z<|RG.C0 (C4 ac (Z.a 1) (Z.a 2)) Z fun w Z=>?_
  cases aI:(Au ac)
  ·exact .r 14<|.d<|.ct<|.s<|.g<|.r 1<|.d<|T.rt func47 results47 (.bool false) ⟨(AG (by (rw [Bool.true_and]; symm; exact Iy (JR ‹_› ‹_› (by exact RX ‹_›))))),Z.xt⟩
  exact .r 3<|RG.Lb 0 Z<|.r 1<|.eq (ac.ids.length:Int) 0 (fun am=>.r 8<|.d<|.ct<|.s<|.g<|.r 1<|.d<|T.rt func47 results47 (.bool false) ⟨(AG (by (rw [Bool.true_and]; symm; exact Iy (JR ‹_› ‹_› (by exact RY ‹_›))))),Z.xt⟩) fun am=>.r 3<|RG.Lb 0 Z<|RG.C0 (Ga ac.ids (Z.a 1) AB) Z fun w Z=>.r 1<|.bp (maxOf ac.ids > (s.idx.names.length:Int)) (fun ao=>.r 1<|.d<|.ct<|.s<|.g<|.r 1<|.d<|T.rt func47 results47 (.bool false) ⟨(AG (by (rw [Bool.true_and]; symm; exact Iy (JR ‹_› ‹_› (by exact RZ ‹_› ‹_› ‹_›))))),Z.xt⟩) fun ao=>.r 1<|.d<|.cf<|.sk<|.ib 1<|.g<|RG.int ((k:Int)+1) AA (by have:=p0.ix.g.len; omega)<|.r 1<|.d<|ab (k+1) _ _ AA (Z.to 1 [] 3) ⟨AB,(by exact IB ‹_› ‹_› (Ra ‹_› ‹_› ‹_›)),‹_›⟩ (by (simp only []; omega))
 refine .d<|.s<|.cf<|.x 0 rfl<|.s<|.s<|.g<|.r 1<|RG.Lb 0 Z<|.r 2<|.d<|.b 2<|T.Lp (0:Nat) (fun k=>([(1,vP ai),(3,vI (s.idx.names.length:Int)),(54,.slice a4 s.mem.length c4),(55,vI (s.mem.length:Int)),(56,vI (k:Int))],[],[],s.mem.length - k,(k≤s.mem.length)∧(s.parts.all (fun p=>Bk p s.idx.names.length)=true)∧((s.mem.drop k).all (Eh s.idx.names.length)=s.mem.all (Eh s.idx.names.length))∧(nmB s.idx.names=true))) [] Z ⟨AD,(by exact Kh ‹_› AB),AD,‹_›⟩ ?_
 rintro k bh w Z ⟨aJ,aK,aL,aM⟩ ae
 refine .s<|.g<|.bp ((k:Int)< (s.mem.length:Int)) (fun aq=>?_) (fun aq=>?_)
 ·refine .d<|.s<|.ct<|.sk<|.s<|.b 3<|.s<|.g<|gxd s.mem k fun ag aa aN=>RG.Ix 0 aa Z<|Z.el 0 aa fun Z=>RG.Lg 0 0 Z<|RG.Np Z fun bi w Z=>RG.Ss 0 Z fun w Z=>.d<|.s<|.g<|.r 1<|RG.Lb 0 Z<|.r 1<|RG.C0 (Bv ag.id 1 (s.idx.names.length:Int) (F:=all)) Z fun w Z=>?_
  cases ah:(inR ag.id 1 (s.idx.names.length:Int))
  ·exact .r 7<|.d<|.ct<|.s<|.g<|.r 1<|.d<|T.rt func47 results47 (.bool false) ⟨(AG (by (rw [Bool.true_and]; symm; exact Lk (JR ‹_› ‹_› (by simp [Eh, *]))))),Z.xt⟩
  refine .r 3<|RG.Ln 0 Z<|RG.C0 (Fs ag.row (F:=all)) Z fun w Z=>?_
  cases aQ:(BU ag.row)
  ·exact .r 2<|.d<|.ct<|.s<|.g<|.r 1<|.d<|T.rt func47 results47 (.bool false) ⟨(AG (by (rw [Bool.true_and]; symm; exact Lk (JR ‹_› ‹_› (by simp [Eh, *]))))),Z.xt⟩
  exact .r 2<|.d<|.cf<|.sk<|.ib 3<|.g<|RG.int ((k:Int)+1) AA (by have:=p0.ix.g.len; omega)<|.r 1<|.d<|ae (k+1) _ _ AA (Z.to 1 [] 1) ⟨AB,‹_›,(by exact IB ‹_› ‹_› (by simp only [Eh, *]; rfl)),‹_›⟩ (by (simp only []; omega))
 refine .d<|.s<|.cf<|.x 2 rfl<|.s<|.s<|.g<|.r 1<|.d<|.b 4<|T.Lp (1:Nat) (fun k=>([(1,vP ai),(3,vI (s.idx.names.length:Int)),(8,vI (k:Int))],[],[],s.idx.names.length+1 - k,(1≤k)∧(k≤s.idx.names.length+1)∧(s.parts.all (fun p=>Bk p s.idx.names.length)=true)∧(s.mem.all (Eh s.idx.names.length)=true)∧(((List.range s.idx.names.length).drop (k - 1)).all (Ei s)=(List.range s.idx.names.length).all (Ei s))∧(nmB s.idx.names=true))) [] Z ⟨AB,AB,‹_›,(by exact Kh ‹_› AB),AF,‹_›⟩ ?_
 rintro k bj w Z ⟨aR,aS,aT,aU,aV,aW⟩ af
 exact .s<|.s<|.g<|.r 2<|.bp ((k:Int)≤(s.idx.names.length:Int)) (fun ar=>.d<|.ct<|.sk<|.s<|.b 5<|.s<|.g<|RG.Ln 0 Z<|.r 1<|RG.CL (C9 s (k:Int) (Z.a 3) (Z.a 2) (Z.a 1) (Z.a 0) (SG.pt p0 ‹_›) (StoK.rw ‹_›) (by have:=p0.np; omega) (by have:=p0.nm2; omega)) Z fun bk bm w Z=>.r 1<|.bp ((((rowsOf s (k:Int)).length):Int) > 24) (fun au=>.d<|.ct<|.s<|.g<|.r 1<|.d<|T.rt func47 results47 (.bool false) ⟨(AG (by (rw [Bool.true_and]; symm; exact QA (Vy ‹_› AB AB AB)))),Z.xt⟩) fun au=>.d<|.cf<|.sk<|.ib 5<|.g<|.r 1<|RG.int ((k:Int)+1) AA (by have:=p0.ix.g.len; omega)<|.r 1<|.d<|af (k+1) _ _ AA (Z.to 0 [] 1) ⟨AB,AB,‹_›,‹_›,(by exact TL ‹_› AB AB AB),‹_›⟩ (by (simp only []; omega))) fun ar=>.d<|.cf<|.x 4 rfl<|.s<|.g<|.r 1<|.d<|T.rt func47 results47 (.bool true) ⟨(AG (by rw [Bool.true_and]; symm; exact QB AB AB ‹_› ‹_› (U0 ‹_› AB))),Z.xt⟩
end Go.Proofs.YtggnnidleedpaaaGreat
namespace Go.Proofs.YtggnnidleedpaaaGreat
set_option maxRecDepth 100000
set_option maxHeartbeats 4000000
variable {w:World} {F:Nat→Prop} {a1 a2 a3 a4:Option Addr} {n1 c1 n2 c2 n3 c3 n4 c4:Nat}
theorem Gs (ix:Idx) (h1:RepS w F a1 n1 c1 ix.names) (h2:RepS w F a2 n2 c2 ix.AY) (p0:IxI ix) (p1:NsD ix.names):Calls Tryz.prog 85 [.agg #[.slice a1 n1 c1,.slice a2 n2 c2]].toArray w (Am fun rv w'=>rv=.bool (true)∧Ext w w'):=by
 refine (GI ix h1 h2 ⟨NmG.of p0.nm p1,fun _=>p0.eq⟩).mono ?_
 rintro e w' ⟨v,rfl,hv,hx⟩
 exact ⟨v,rfl,by rw [hv,D4.2 p0.nm],hx⟩
theorem D5 (s:Sto) (h1:RepS w F a1 n1 c1 s.idx.names) (h2:RepS w F a2 n2 c2 s.idx.AY) (h3:RepS w F a3 n3 c3 s.parts) (h4:RepS w F a4 n4 c4 s.mem) (p0:SD s):Calls Tryz.prog 47 [.agg #[.slice a1 n1 c1,.slice a2 n2 c2,.slice a3 n3 c3,.slice a4 n4 c4]].toArray w (Am fun rv w'=>rv=.bool (Ac s)∧Ext w w'):=by
 refine (Ec s h1 h2 h3 h4 (SG.of p0)).mono ?_
 rintro e w' ⟨v,rfl,hv,hx⟩
 exact ⟨v,rfl,by rw [hv,D4.2 p0.nm,Bool.true_and],hx⟩
end Go.Proofs.YtggnnidleedpaaaGreat
namespace Go.Proofs.YtggnnidleedpaaaGreat
set_option maxRecDepth 100000
set_option maxHeartbeats 4000000
variable {w:World} {F:Nat→Prop} {a1 a2 a3 a4 a5:Option Addr} {n1 c1 n2 c2 n3 c3 n4 c4 n5 c5:Nat}
theorem Jp (ix:Idx) (n:List Tag) (h1:RepS w F a1 n1 c1 ix.names) (h2:RepS w F a2 n2 c2 ix.AY) (h3:RepS w F a3 n3 c3 n) (p0:IxI ix) (p1:NsD ix.names) (p2:NmD n):Calls Tryz.prog 96 [.agg #[.slice a1 n1 c1,.slice a2 n2 c2],.slice a3 n3 c3].toArray w (Am fun rv w'=>(∃ v0,rv=.tuple #[v0,.int .i64 ((CH ix n).2.1),.bool ((CH ix n).2.2)]∧VS (fo F w.heap.size) w' ((CH ix n).1:Idx) v0)∧Ext w w'):=by
 cases h1.len
 cases h2.len
 cases h3.len
 refine goT func96 ?_
 have Z:=(((St.i0 F w).p h1).p h2).p h3
 have ac:=h1.max
 refine .s<|.g<|RG.Np Z fun ab w Z=>RG.Np Z fun ah w Z=>.r 2<|.d<|.s<|.s<|.g<|RG.Ln 1 Z<|RG.C0 (Gs ix (Z.a 2) (Z.a 1) p0 p1) Z fun w Z=>.r 3<|RG.C0 (DY n (Z.a 0)) Z fun w Z=>?_
 cases ag:(Aq n)
 ·refine .r 2<|.d<|.ct<|.s<|.g<|.r 1<|RG.Ss 0 Z fun w Z=>.r 2<|.d ?_
  have Z:=(Z.nl (List Tag)).nl Pst
  exact T.r3 func96 results96 (.B 0 Z) (.t (vI 0)) (.t (.bool false)) ⟨⟨_,(MM rfl (congrArg (Value.int .i64) (by rw [Mc ‹_›])) (AG (by rw [Mc ‹_›]))),Z.rS (g:=1) (⟨([]:List (List Tag)),([]:List Pst)⟩:Idx) [1,0] (by rw [Mc ‹_›])⟩,Z.xt⟩
 refine .r 2<|.d<|.cf<|.sk<|.s<|.s<|.g<|.r 1<|RG.Lb 1 Z<|.r 1<|RG.C0 (GG ix.names n (Z.a 2) (Z.a 0)) Z fun w Z=>.r 1<|.d<|.s<|.g<|.r 1<|.bp ((DZ n 0 ix.names+1) > 0) (fun E=>.d<|.ct<|.s<|.g<|.r 1<|RG.Lb 1 Z<|RG.CS (Bz ix.names (Z.a 2) (by exact p0.nm) (by exact p1)) Z fun ai aj ak al w Z=>.r 1<|RG.Ss 0 Z fun w Z=>.r 2<|.d<|T.r3 func96 results96 (.B 0 Z) (.t (vI (DZ n 0 ix.names+1))) (.t (.bool true)) ⟨⟨_,(MM rfl (congrArg (Value.int .i64) (by (rw [Kk p0 ‹_› ‹_›]; done))) (AG (by (rw [Kk p0 ‹_› ‹_›]; done)))),Z.rS (g:=1) (idxOf ix.names) [0,1] (by (rw [Kk p0 ‹_› ‹_›]; done))⟩,Z.xt⟩) fun E=>.d<|.cf<|.sk<|.s<|.s<|.g<|.r 1<|RG.Lb 1 Z<|.r 1<|.eq (ix.names.length:Int) 6 (fun aa=>.d<|.ct<|.s<|.g<|.r 1<|RG.Lb 1 Z<|RG.CS (Bz ix.names (Z.a 2) (by exact p0.nm) (by exact p1)) Z fun am ao aq ar w Z=>RG.Ss 0 Z fun w Z=>.r 2<|.d<|T.r3 func96 results96 (.B 0 Z) (.t (vI 0)) (.t (.bool false)) ⟨⟨_,(MM rfl (congrArg (Value.int .i64) (by (rw [I8 p0 ‹_› ‹_› ‹_›]; done))) (AG (by (rw [I8 p0 ‹_› ‹_› ‹_›]; done)))),Z.rS (g:=1) (idxOf ix.names) [0,1] (by (rw [I8 p0 ‹_› ‹_› ‹_›]; done))⟩,Z.xt⟩) fun aa=>.d<|.cf<|.sk<|.s<|T.GS 12 [ab] Z fun _ w Z=>.r [0]<|GA.Lb 1 1 Z<|.r [3,7]<|GA.Lb 8 1 Z<|.r [9]<|GA.int (i:=10) ((ix.names.length:Int)+1) AA (by have:=p0.nm.len; omega)<|.tw 2 4 ?_ ?_
 ·exact GE.CO 1 (fun w Z=>Ae ix.names (Z.a 2) (by have:=p0.nm.len; omega) (fun n hn=>by have:=(p0.nm.sz n hn).1; omega)) Z fun au ax w Z=>.go 4<|GE.Nb 1 Z fun ay w Z=>.go 5<|GE.Ap (hs:=by exact (by have:=p0.nm.len; omega)) 0 0 ix.names n [0] [2] Z fun az aA w Z=>.go 6<|GE.CS (fun w Z=>Bz (ix.names++[n]) (Z.oa 0) (by exact NmI.V7 p0 ‹_› ‹_› ‹_›) (by exact p1.add p2)) Z fun aB aC aD aE w Z=>.go 11<|GE.Ss 1 [2] Z fun w Z=>GA.Do Z fun w Z=>.r 2<|.d<|T.r3 func96 results96 (.B 1 Z) (.t (vI ((ix.names.length:Int)+1))) (.t (.bool true)) ⟨⟨_,(MM rfl (congrArg (Value.int .i64) (by (rw [Fh p0 ‹_› ‹_› ‹_›]; done))) (AG (by (rw [Fh p0 ‹_› ‹_› ‹_›]; done)))),Z.rS (g:=1) (idxOf (ix.names++[n])) [0,1] (by (rw [Fh p0 ‹_› ‹_› ‹_›]; done))⟩,Z.xt⟩
 exact GE.Nb 1 Z fun aF w Z=>.go 2<|GE.CO 1 (fun w Z=>Ae ix.names (Z.a 2) (by have:=p0.nm.len; omega) (fun n hn=>by have:=(p0.nm.sz n hn).1; omega)) Z fun aG aH w Z=>.go 5<|GE.Ap (hs:=by exact (by have:=p0.nm.len; omega)) 0 1 ix.names n [0] [2] Z fun aI aJ w Z=>.go 6<|GE.CS (fun w Z=>Bz (ix.names++[n]) (Z.oa 0) (by exact NmI.V7 p0 ‹_› ‹_› ‹_›) (by exact p1.add p2)) Z fun aK aL aM aN w Z=>.go 11<|GE.Ss 1 [2] Z fun w Z=>GA.Do Z fun w Z=>.r 2<|.d<|T.r3 func96 results96 (.B 1 Z) (.t (vI ((ix.names.length:Int)+1))) (.t (.bool true)) ⟨⟨_,(MM rfl (congrArg (Value.int .i64) (by (rw [Fh p0 ‹_› ‹_› ‹_›]; done))) (AG (by (rw [Fh p0 ‹_› ‹_› ‹_›]; done)))),Z.rS (g:=1) (idxOf (ix.names++[n])) [0,1] (by (rw [Fh p0 ‹_› ‹_› ‹_›]; done))⟩,Z.xt⟩
theorem FG (s:Sto) (h1:RepS w F a1 n1 c1 s.idx.names) (h2:RepS w F a2 n2 c2 s.idx.AY) (h3:RepS w F a3 n3 c3 s.parts) (h4:RepS w F a4 n4 c4 s.mem) (p0:NmI s.idx.names) (p1:NsD s.idx.names) (p2:LX s):Calls Tryz.prog 41 [.agg #[.slice a1 n1 c1,.slice a2 n2 c2,.slice a3 n3 c3,.slice a4 n4 c4]].toArray w (Am fun rv w'=>(∃ (a0:Option Addr) (n0 c0:Nat) (a1:Option Addr) (n1 c1:Nat) (a2:Option Addr) (n2 c2:Nat) (r3 n3 c3:Nat),rv=.agg #[.slice a0 n0 c0,.slice a1 n1 c1,.slice a2 n2 c2,.slice (some ⟨r3,0,none⟩) n3 c3]∧RepS w' (nin (ge w.heap.size) [r3]) a0 n0 c0 ((((AZ s)).idx).names)∧RepS w' (nin (ge w.heap.size) [r3]) a1 n1 c1 ((((AZ s)).idx).AY)∧RepS w' (nin (ge w.heap.size) [r3]) a2 n2 c2 (((AZ s)).parts)∧Own w' r3 85 (nin (ge w.heap.size) [r3]) n3 c3 (((AZ s)).mem)∧w.heap.size≤r3)∧Ext w w'):=by
 cases h1.len
 cases h2.len
 cases h3.len
 cases h4.len
 refine goT func41 ?_
 have Z:=((((St.i0 F w).p h1).p h2).p h3).p h4
 have aE:=h3.max
 have aF:=h4.max
 refine .s<|.g<|RG.Np Z fun ae w Z=>RG.Np Z fun af w Z=>.d<|.s<|T.GS 10 [af,ae] Z fun _ w Z=>.r [0,1]<|GA.Lb (q:=1) 2 1 Z<|.r [4]<|GA.Lb (q:=1) 5 1 Z<|.r [8]<|GA.Lb (q:=1) 9 1 Z<|.tw 3 7 ?_ ?_
 ·refine GE.CS (fun w Z=>Bz s.idx.names (Z.a 3) p0 p1) Z fun E aa ab ac w Z=>.tw 6 7 ?_ ?_
  ·refine GE.CO 0 (fun w Z=>CE s.parts (Z.a 3) (by have:=p2.2.1; omega) p2.2.2.1) Z fun ag ah w Z=>.go 7<|GE.N0 Smp 0 Z fun aG w Z=>GA.Do Z fun w Z=>RG.An (hs:=by (simp only [List.nil_append,List.length_nil,List.length_append,List.length_cons] <;> exact (by have:=p2.2.2.2; omega))) (hf:=.inr ER) 0 2 ([]:List Smp) s.mem Z fun ai aj w Z=>.r 1<|RG.Ss 2 Z fun w Z=>.d ?_
   have Z:=Z.sl 1
   exact T.Rb 1 func41 results41 Z ⟨⟨E,((idxOf s.idx.names).names.length),aa,ab,((idxOf s.idx.names).AY.length),ac,(some ⟨ag,0,none⟩),s.parts.length,ah,ai,(([]++s.mem).length),aj,AA,Z.qr [0] 1 ((idxOf s.idx.names).names) AF,Z.qr [0] 2 ((idxOf s.idx.names).AY) AF,Z.qr [0] 0 s.parts AF,Z.qo [0] 0 ([]++s.mem) AF,Z.qb 0⟩,Z.xt⟩
  refine GE.N0 Smp 0 Z fun aH w Z=>.go 6<|GE.CO 0 (fun w Z=>CE s.parts (Z.a 3) (by have:=p2.2.1; omega) p2.2.2.1) Z fun ak al w Z=>GA.Do Z fun w Z=>RG.An (hs:=by (simp only [List.nil_append,List.length_nil,List.length_append,List.length_cons] <;> exact (by have:=p2.2.2.2; omega))) (hf:=.inr ER) 1 2 ([]:List Smp) s.mem Z fun am ao w Z=>.r 1<|RG.Ss 2 Z fun w Z=>.d ?_
  have Z:=Z.sl 0
  exact T.Rb 1 func41 results41 Z ⟨⟨E,((idxOf s.idx.names).names.length),aa,ab,((idxOf s.idx.names).AY.length),ac,(some ⟨ak,0,none⟩),s.parts.length,al,am,(([]++s.mem).length),ao,AA,Z.qr [0] 1 ((idxOf s.idx.names).names) AF,Z.qr [0] 2 ((idxOf s.idx.names).AY) AF,Z.qr [0] 0 s.parts AF,Z.qo [0] 0 ([]++s.mem) AF,Z.qb 0⟩,Z.xt⟩
 refine GE.N0 Smp 0 Z fun aI w Z=>.go 3<|GE.CS (fun w Z=>Bz s.idx.names (Z.a 3) p0 p1) Z fun aq ar au ax w Z=>.go 6<|GE.CO 0 (fun w Z=>CE s.parts (Z.a 3) (by have:=p2.2.1; omega) p2.2.2.1) Z fun ay az w Z=>GA.Do Z fun w Z=>RG.An (hs:=by (simp only [List.nil_append,List.length_nil,List.length_append,List.length_cons] <;> exact (by have:=p2.2.2.2; omega))) (hf:=.inr ER) 1 2 ([]:List Smp) s.mem Z fun aA aB w Z=>.r 1<|RG.Ss 2 Z fun w Z=>.d ?_
 have Z:=Z.sl 0
 exact T.Rb 1 func41 results41 Z ⟨⟨aq,((idxOf s.idx.names).names.length),ar,au,((idxOf s.idx.names).AY.length),ax,(some ⟨ay,0,none⟩),s.parts.length,az,aA,(([]++s.mem).length),aB,AA,Z.qr [0] 1 ((idxOf s.idx.names).names) AF,Z.qr [0] 2 ((idxOf s.idx.names).AY) AF,Z.qr [0] 0 s.parts AF,Z.qo [0] 0 ([]++s.mem) AF,Z.qb 0⟩,Z.xt⟩
theorem GJ (s:Sto) (n:List Tag) (r:Row) (h1:RepS w F a1 n1 c1 s.idx.names) (h2:RepS w F a2 n2 c2 s.idx.AY) (h3:RepS w F a3 n3 c3 s.parts) (h4:RepS w F a4 n4 c4 s.mem) (h5:RepS w F a5 n5 c5 n) (p0:SD s) (p1:NmD n):Calls Tryz.prog 54 [.agg #[.slice a1 n1 c1,.slice a2 n2 c2,.slice a3 n3 c3,.slice a4 n4 c4],.slice a5 n5 c5,.agg #[.int .i64 r.t,.int .i64 r.v]].toArray w (Am fun rv w'=>(∃ v0,rv=.tuple #[v0,.bool ((BS s n r).2)]∧VS (fo F w.heap.size) w' ((BS s n r).1:Sto) v0)∧Ext w w'):=by
 cases h1.len
 cases h2.len
 cases h3.len
 cases h4.len
 cases h5.len
 refine goT func54 ?_
 have Z:=(((((St.i0 F w).p h1).p h2).p h3).p h4).p h5
 have aO:=h4.max
 refine .s<|.g<|RG.Np Z fun aU w Z=>RG.Np Z fun aV w Z=>RG.Np Z fun aW w Z=>.r 1<|.d<|.s<|.s<|.g<|RG.Ln 2 Z<|RG.C0 (D5 s (Z.a 4) (Z.a 3) (Z.a 2) (Z.a 1) p0) Z fun w Z=>?_
 cases aQ:(Ac s)
 ·refine .r 6<|.d<|.ct<|.s<|.g<|.r 1<|RG.Ss 0 Z fun w Z=>.r 1<|.d ?_
  have Z:=(((Z.nl (List Tag)).nl Pst).nl Prt).nl Smp
  exact T.r2 func54 results54 (.B 0 Z) (.t (.bool false)) ⟨⟨_,(Bx rfl (AG (by exact (congrArg Prod.snd (KA (.inl ‹_›))).symm))),Z.rS (g:=1) (⟨(⟨([]:List (List Tag)),([]:List Pst)⟩:Idx),([]:List Prt),([]:List Smp)⟩:Sto) [3,2,1,0] (by exact (congrArg Prod.fst (KA (.inl ‹_›))).symm)⟩,Z.xt⟩
 refine .r 3<|RG.C0 (DY n (Z.a 0)) Z fun w Z=>?_
 cases aR:(Aq n)
 ·refine .r 2<|.d<|.ct<|.s<|.g<|.r 1<|RG.Ss 0 Z fun w Z=>.r 1<|.d ?_
  have Z:=(((Z.nl (List Tag)).nl Pst).nl Prt).nl Smp
  exact T.r2 func54 results54 (.B 0 Z) (.t (.bool false)) ⟨⟨_,(Bx rfl (AG (by exact (congrArg Prod.snd (KA (.inr ‹_›))).symm))),Z.rS (g:=1) (⟨(⟨([]:List (List Tag)),([]:List Pst)⟩:Idx),([]:List Prt),([]:List Smp)⟩:Sto) [3,2,1,0] (by exact (congrArg Prod.fst (KA (.inr ‹_›))).symm)⟩,Z.xt⟩
 refine .r 2<|.d<|.cf<|.sk<|.s<|.g<|RG.Ln 2 Z<|RG.cl (FG s (Z.a 4) (Z.a 3) (Z.a 2) (Z.a 1) p0.nm p0.nd p0.sz) ?_
 rintro _ w ⟨⟨ar,aX,au,ax,aY,ay,az,aZ,aA,aB,ba,aC,rfl,ab,ac,ae,E,af⟩,ag⟩
 cases ab.len
 cases ac.len
 cases ae.len
 cases E.len
 have Z:=Z.so ag [.own 0 aB 85 aC (((AZ s)).mem)] [.rep ar au ((((AZ s)).idx).names),.rep ax ay ((((AZ s)).idx).AY),.rep az aA (((AZ s)).parts)] nd1 (oN E af o0) (fc ab (fc ac (fc ae fn_)))
 refine RG.Np Z fun bd w Z=>RG.Ss 0 Z fun w Z=>.d<|.s<|.g<|.r 1<|RG.Ln 4 Z<|.r 1<|RG.CT (us:=[vI ((CH s.idx n).2.1),.bool ((CH s.idx n).2.2)]) (Jp s.idx n (Z.mg 1 7) (Z.mg 1 6) (Z.mg 1 3) p0.ix p0.nd p1) Z fun bg bh bi bj w Z=>.r 3 ?_
 cases aS:(CH s.idx n).2.2
 ·refine .r 1<|RG.Np Z fun bk w Z=>RG.Ss 0 Z fun w Z=>.r 2<|.d<|.s<|.s<|.g<|.r 13<|.d<|.ct<|.s<|.g<|RG.Ln 1 Z<|RG.Ss 3 Z fun w Z=>.r 1<|.d ?_
  have Z:=Z.sl 2
  exact T.r2 func54 results54 (.B 2 Z) (.t (.bool false)) ⟨⟨_,(Bx rfl (AG (by exact (congrArg Prod.snd (Rc p0 ‹_› ‹_› ‹_›)).symm))),Z.rS (g:=1) (⟨(⟨(((AZ s)).idx).names,(((AZ s)).idx).AY⟩:Idx),((AZ s)).parts,((AZ s)).mem⟩:Sto) [3,4,5,0] (by exact (congrArg Prod.fst (Rc p0 ‹_› ‹_› ‹_›)).symm)⟩,Z.xt⟩
 refine .r 1<|RG.Np Z fun bm w Z=>RG.Ss 0 Z fun w Z=>.r 2<|.d<|.s<|.s<|.g<|.r 3<|RG.Ln 4 Z<|RG.C0 (Fs r (F:=all)) Z fun w Z=>?_
 cases aT:(BU r)
 ·refine .r 8<|.d<|.ct<|.s<|.g<|RG.Ln 1 Z<|RG.Ss 3 Z fun w Z=>.r 1<|.d ?_
  have Z:=Z.sl 2
  exact T.r2 func54 results54 (.B 2 Z) (.t (.bool false)) ⟨⟨_,(Bx rfl (AG (by exact (congrArg Prod.snd (Rd p0 ‹_› ‹_› ‹_›)).symm))),Z.rS (g:=1) (⟨(⟨(((AZ s)).idx).names,(((AZ s)).idx).AY⟩:Idx),((AZ s)).parts,((AZ s)).mem⟩:Sto) [3,4,5,0] (by exact (congrArg Prod.fst (Rd p0 ‹_› ‹_› ‹_›)).symm)⟩,Z.xt⟩
 refine .r 4<|RG.Lb 5 Z<|.r 1<|.eq (s.mem.length:Int) 20 (fun ah=>?_) (fun ah=>?_)
 ·refine .r 1<|.d<|.ct<|.s<|.g<|RG.Ln 1 Z<|RG.Ss 3 Z fun w Z=>.r 1<|.d ?_
  have Z:=Z.sl 2
  exact T.r2 func54 results54 (.B 2 Z) (.t (.bool false)) ⟨⟨_,(Bx rfl (AG (by exact (congrArg Prod.snd (Re p0 ‹_› ‹_› ‹_›)).symm))),Z.rS (g:=1) (⟨(⟨(((AZ s)).idx).names,(((AZ s)).idx).AY⟩:Idx),((AZ s)).parts,((AZ s)).mem⟩:Sto) [3,4,5,0] (by exact (congrArg Prod.fst (Re p0 ‹_› ‹_› ‹_›)).symm)⟩,Z.xt⟩
 refine .r 1<|.d<|.cf<|.sk<|.s<|.g<|RG.Ln 0 Z<|.r 1<|RG.Ss 1 Z fun w Z=>.d<|.s<|.g<|.r 1<|RG.Lb 1 Z<|.r 1<|RG.Ln 4 Z<|.r 1<|RG.Nb 1 Z fun bn w Z=>RG.Ap (hs:=by exact (by have q1:=p0.nm2; have q2:(AZ s).mem.length=s.mem.length:=rfl; omega)) 2 0 (((AZ s)).mem) (⟨(CH s.idx n).2.1,(⟨r.t,r.v⟩:Row)⟩:Smp) [] Z fun bq br w Z=>.r 1<|RG.Ss 1 Z fun w Z=>.d<|.s<|.s<|.g<|RG.Ln 1 Z<|.r 1<|RG.CL (C9 (⟨(⟨(CH s.idx n).1.names,((CH s.idx n).1).AY⟩:Idx),((AZ s)).parts,(((AZ s)).mem++[(⟨(CH s.idx n).2.1,(⟨r.t,r.v⟩:Row)⟩:Smp)])⟩:Sto) ((CH s.idx n).2.1) (Z.a 0) (Z.a 1) (Z.a 4) (Z.oa 2) (by exact (StoK.of p0 ‹_›).part) (Te (StoK.of p0 ‹_›) ‹_›) (by have q1:=p0.np; exact Nat.le_trans q1 AB) (by have q1:=p0.nm2; simp only [AZ,List.length_append,List.length_cons,List.length_nil]; omega)) Z fun bt bu w Z=>.r 1<|.bp ((((rowsOf (⟨(⟨(CH s.idx n).1.names,((CH s.idx n).1).AY⟩:Idx),((AZ s)).parts,(((AZ s)).mem++[(⟨(CH s.idx n).2.1,(⟨r.t,r.v⟩:Row)⟩:Smp)])⟩:Sto) ((CH s.idx n).2.1)).length):Int) > 24) (fun ai=>?_) (fun ai=>?_)
 ·refine .d<|.ct<|.s<|.g<|RG.Ln 5 Z<|RG.cl (FG s (Z.a 10) (Z.a 9) (Z.a 8) (Z.a 7) p0.nm p0.nd p0.sz) ?_
  rintro _ w ⟨⟨aD,bv,aE,aF,bw,aG,aH,bz,aI,aJ,bA,aK,rfl,aj,ak,al,aa,am⟩,ao⟩
  cases aj.len
  cases ak.len
  cases al.len
  cases aa.len
  have Z:=Z.so ao [.own 0 aJ 85 aK (((AZ s)).mem)] [.rep aD aE ((((AZ s)).idx).names),.rep aF aG ((((AZ s)).idx).AY),.rep aH aI (((AZ s)).parts)] nd1 (oN aa am o0) (fc aj (fc ak (fc al fn_)))
  refine RG.Ss 4 Z fun w Z=>.r 1<|.d ?_
  have Z:=Z.sl 0
  exact T.r2 func54 results54 (.B 3 Z) (.t (.bool false)) ⟨⟨_,(Bx rfl (AG (by exact (congrArg Prod.snd (Rf p0 ‹_› ‹_› ‹_› ‹_› ‹_› ‹_›)).symm))),Z.rS (g:=1) (⟨(⟨(((AZ s)).idx).names,(((AZ s)).idx).AY⟩:Idx),((AZ s)).parts,((AZ s)).mem⟩:Sto) [1,2,3,0] (by exact (congrArg Prod.fst (Rf p0 ‹_› ‹_› ‹_› ‹_› ‹_› ‹_›)).symm)⟩,Z.xt⟩
 refine .d<|.cf<|.sk<|.s<|.g<|RG.Ln 1 Z<|RG.Ss 3 Z fun w Z=>.r 1<|.d ?_
 have Z:=Z.sl 2
 exact T.r2 func54 results54 (.B 2 Z) (.t (.bool true)) ⟨⟨_,(Bx rfl (AG (by exact (congrArg Prod.snd (Rh p0 ‹_› ‹_› ‹_› ‹_› ‹_› ‹_›)).symm))),Z.rS (g:=1) (⟨(⟨(CH s.idx n).1.names,((CH s.idx n).1).AY⟩:Idx),((AZ s)).parts,(((AZ s)).mem++[(⟨(CH s.idx n).2.1,(⟨r.t,r.v⟩:Row)⟩:Smp)])⟩:Sto) [2,3,6,0] (by exact (congrArg Prod.fst (Rh p0 ‹_› ‹_› ‹_› ‹_› ‹_› ‹_›)).symm)⟩,Z.xt⟩
end Go.Proofs.YtggnnidleedpaaaGreat
namespace Go.Proofs.YtggnnidleedpaaaGreat
def look (t:Int) (b:List Row):Option Row:=b.find? (fun r=>r.t==t)
theorem Rm (t:Int):look t []=none:=rfl
theorem BY (t:Int) (r:Row) (b:List Row):look t (r::b)=if r.t=t then some r else look t b:=by
 unfold look
 rw [List.find?_cons]
 by_cases h:r.t=t
 ·simp [h]
 ·have:(r.t==t)=false:=beq_eq_false_iff_ne.2 h
  rw [this,if_neg h]
theorem NU (t:Int) (r:Row):∀ (b:List Row),look t (DK r b)=if r.t=t then some r else look t b:=by
 intro b
 induction b with
 | nil=>unfold DK; rw [BY]
 | cons x xs ih =>
   unfold DK
   by_cases h1:r.t< x.t
   ·rw [if_pos h1,BY]
   ·rw [if_neg h1]
    by_cases h2:r.t=x.t
    ·rw [if_pos h2,BY,BY]
     by_cases h:r.t=t
     ·rw [if_pos h,if_pos h]
     ·rw [if_neg h,if_neg h,if_neg AB]
    ·rw [if_neg h2,BY,ih,BY]
     by_cases h:r.t=t
     ·rw [if_pos h,if_neg AB,if_pos h]
     ·rw [if_neg h,if_neg h]
theorem Blk.tl {r:Row}{b:List Row}(h:Blk (r::b)):Blk b∧BU r=true∧∀ q∈b,r.t< q.t:=by
 obtain ⟨h1,_,h3⟩:=BX.1 h
 exact ⟨ND h3,h1,LY b r h3⟩
theorem I9 {t:Int}:∀ {b:List Row},(∀ q∈b,t≠q.t)→look t b=none:=by
 intro b
 induction b with
 | nil=>intro _; rfl
 | cons x xs ih =>
   intro h
   rw [BY,if_neg (fun e=>h x AD e.symm)]
   exact ih (fun q hq=>h q (by simp [hq]))
theorem JA {t:Int}{q:Row}:∀ {b:List Row},look t b=some q→q.t=t∧q∈b:=by
 intro b h
 have h1:=List.find?_some h
 exact ⟨by simpa using h1,List.mem_of_find?_eq_some h⟩
theorem Ch (t:Int):∀ {b:List Row}(o:List Row),Blk o→Blk b→look t (Bb o b)=(look t b).or (look t o):=by
 intro b
 induction b with
 | nil=>intro o _ _; rfl
 | cons x xs ih =>
   intro o ho hb
   obtain ⟨h1,h2,h3⟩:=hb.tl
   have e:Bb o (x::xs)=Bb (ED o x) xs:=rfl
   rw [e,ih _ (ho.put h2) h1,Fc ho,NU,BY]
   by_cases h:x.t=t
   ·rw [if_pos h,if_pos h,I9 (fun q hq=>by have:=h3 q hq; omega)]
    rfl
   ·rw [if_neg h,if_neg h]
theorem Km:∀ {a b:List Row},Blk a→Blk b→(∀ t,look t a=look t b)→a=b:=by
 intro a
 induction a with
 | nil =>
   intro b _ _ h
   cases b with
   | nil=>rfl
   | cons y ys =>
     have:=h y.t
     rw [BY,if_pos rfl] at this
     cases this
 | cons x xs ih =>
   intro b ha hb h
   cases b with
   | nil =>
     have:=h x.t
     rw [BY,if_pos rfl] at this
     cases this
   | cons y ys =>
     obtain ⟨a1,_,a3⟩:=ha.tl
     obtain ⟨b1,_,b3⟩:=hb.tl
     have hx:=h x.t
     have hy:=h y.t
     rw [BY,if_pos rfl,BY] at hx
     rw [BY,BY,if_pos rfl] at hy
     by_cases e:x.t=y.t
     ·rw [if_pos e.symm] at hx
      cases hx
      congr 1
      refine ih a1 b1 (fun t=>?_)
      have ht:=h t
      rw [BY,BY] at ht
      by_cases e2:x.t=t
      ·rw [I9 (fun q hq=>by have:=a3 q hq; omega),I9 (fun q hq=>by have:=b3 q hq; omega)]
      ·rw [if_neg e2,if_neg e2] at ht
       exact ht
     ·rw [if_neg (fun e2=>e e2.symm)] at hx
      rw [if_neg e] at hy
      have h1:=b3 x (JA hx.symm).2
      have h2:=a3 y (JA hy).2
      omega
theorem Md:∀ {b a:List Row},Blk a→Blk b→(∀ t,(look t a).isSome=true→(look t b).isSome=true)→a.length≤b.length:=by
 intro b
 induction b with
 | nil =>
   intro a _ _ h
   cases a with
   | nil=>exact Nat.le_refl _
   | cons x xs =>
     have:=h x.t (by rw [BY,if_pos rfl]; rfl)
     cases this
 | cons y ys ih =>
   intro a ha hb h
   obtain ⟨b1,_,b3⟩:=hb.tl
   cases a with
   | nil=>simp
   | cons x xs =>
     obtain ⟨a1,_,a3⟩:=ha.tl
     have hx:=h x.t (by rw [BY,if_pos rfl]; rfl)
     rw [BY] at hx
     by_cases e:y.t=x.t
     ·simp only [List.length_cons]
      refine Nat.succ_le_succ (ih a1 b1 (fun t ht=>?_))
      obtain ⟨q,hq⟩:=Option.isSome_iff_exists.1 ht
      have hq2:=JA hq
      have h4:=a3 q hq2.2
      have h5:=h t (by rw [BY,if_neg AB]; exact ht)
      rw [BY,if_neg AB] at h5
      exact h5
     ·rw [if_neg e] at hx
      obtain ⟨q,hq⟩:=Option.isSome_iff_exists.1 hx
      have hq2:=JA hq
      have h4:=b3 q hq2.2
      refine Nat.le_succ_of_le (ih ha b1 (fun t ht=>?_))
      obtain ⟨u,hu⟩:=Option.isSome_iff_exists.1 ht
      have hu2:=JA hu
      have h6:x.t≤u.t:=by
       rcases List.mem_cons.1 hu2.2 with e2 | hm
       ·rw [e2]; exact Int.le_refl _
       ·have:=a3 u hm; omega
      have h5:=h t ht
      rw [BY,if_neg AB] at h5
      exact h5
theorem Me {a b c:List Row}(ha:Blk a) (hb:Blk b) (hc:Blk c):Bb (Bb a b) c=Bb a (Bb b c) :=
 Km ((ha.merge hb).merge hc) (ha.merge (hb.merge hc)) (fun t=>by
  rw [Ch t _ (ha.merge hb) hc,Ch t _ ha hb,Ch t _ ha (hb.merge hc),Ch t _ hb hc,Option.or_assoc])
theorem Kn (a:List Row):Bb a []=a:=rfl
theorem Kp {a:List Row}(h:Blk a):Bb [] a=a:=Km (Blk.nil.merge h) h (fun t=>by rw [Ch t _ Blk.nil h,Rm]; simp)
theorem Rn (id:Int):∀ (bs:List (List Row)) (i:Nat),Ba id (BJ i bs).1 (BJ i bs).2=if (i:Int)+1≤id then bs.getD (id - i - 1).toNat [] else []:=by
 intro bs
 induction bs with
 | nil=>intro i; simp [BJ,Ba]
 | cons b bs ih =>
   intro i
   have h1:=ih (i+1)
   unfold BJ
   by_cases hb:b.length > 0
   ·rw [if_pos hb]
    unfold Ba
    by_cases he:(i:Int)+1=id
    ·rw [if_pos (by simpa using he),if_pos AB,show (id - i - 1).toNat=0 by omega]
     rfl
    ·rw [if_neg (by simpa using he),h1]
     by_cases h2:(i:Int)+1≤id
     ·rw [if_pos AB,if_pos h2,show (id - i - 1).toNat=(id - (i+1:Nat) - 1).toNat+1 by omega]
      rfl
     ·rw [if_neg AB,if_neg h2]
   ·rw [if_neg hb,h1]
    have:b=[]:=List.length_eq_zero_iff.1 AB
    subst this
    by_cases h2:(i:Int)+1≤id
    ·rw [if_pos h2]
     by_cases he:(i:Int)+1=id
     ·rw [if_neg AB,show (id - i - 1).toNat=0 by omega]
      rfl
     ·rw [if_pos AB,show (id - i - 1).toNat=(id - (i+1:Nat) - 1).toNat+1 by omega]
      rfl
    ·rw [if_neg AB,if_neg h2]
theorem NW (bs:List (List Row)){id:Int}(h:1≤id):partOf (Dx bs) id=bs.getD (id - 1).toNat []:=by
 unfold partOf Dx
 have:=Rn id bs 0
 rw [if_pos AB] at this
 rw [this,show (id - (0:Nat) - 1)=id - 1 by omega]
theorem DN:∀ (bs:List (List Row)) (i:Nat) (b:List Row),BJ i (bs++[b])=if b.length > 0 then ((BJ i bs).1++[(i:Int)+bs.length+1],(BJ i bs).2++[b]) else BJ i bs:=by
 intro bs
 induction bs with
 | nil=>intro i b; simp [BJ]
 | cons x xs ih =>
   intro i b
   rw [List.cons_append]
   have h1:=ih (i+1) b
   unfold BJ
   rw [h1]
   by_cases hb:b.length > 0
   ·rw [if_pos hb,if_pos hb]
    simp only [List.length_cons]
    split <;> simp <;> omega
   ·rw [if_neg hb,if_neg hb]
def EE (mem:List Smp):Sto:=⟨⟨[],[]⟩,[],mem⟩
def DT (mem:List Smp) (n:Nat):List (List Row):=(List.range n).map (fun (i:Nat)=>rowsOf (EE mem) ((i:Int)+1))
theorem Gt (mem:List Smp) (n:Nat):(DT mem n).length=n:=by simp [DT]
theorem QJ (mem:List Smp) (n:Nat):DT mem (n+1)=DT mem n++[rowsOf (EE mem) ((n:Int)+1)]:=by simp [DT,List.range_succ]
theorem QK (mem:List Smp) (m:Smp) (h:1≤m.id∧m.id≤6):DT (mem++[m]) 6=GQ (DT mem 6) m:=by
 have key:∀ id:Int,rowsOf (EE (mem++[m])) id=CR id (rowsOf (EE mem) id) m:=fun id=>by
  unfold rowsOf EE
  simp only [List.foldl_append,List.foldl_cons,List.foldl_nil]
 refine List.ext_getElem? (fun i=>?_)
 unfold GQ
 rw [List.getElem?_set]
 by_cases hi:i< 6
 ·have e:∀ mem:List Smp,(DT mem 6)[i]? = some (rowsOf (EE mem) ((i:Int)+1)):=fun mem=>by unfold DT; rw [List.getElem?_map,List.getElem?_range hi]; rfl
  rw [e,key]
  by_cases h2:(m.id - 1).toNat=i
  ·rw [if_pos h2,if_pos (by rw [Gt]; omega),List.getD_eq_getElem?_getD,h2,e]
   unfold CR
   rw [if_pos (by simp; omega)]
   rfl
  ·rw [if_neg h2,e]
   unfold CR
   rw [if_neg (by simp; omega)]
 ·rw [List.getElem?_eq_none (by rw [Gt]; omega),if_neg AB,List.getElem?_eq_none (by rw [Gt]; omega)]
theorem Tg {mem:List Smp}(h:∀ m∈mem,1≤m.id∧m.id≤6):mem.foldl GQ [[],[],[],[],[],[]]=DT mem 6:=by
 have key:∀ (ms pre:List Smp),(∀ m∈ms,1≤m.id∧m.id≤6)→ms.foldl GQ (DT pre 6)=DT (pre++ms) 6:=by
  intro ms
  induction ms with
  | nil=>intro pre _; simp
  | cons m ms ih =>
    intro pre h
    rw [List.foldl_cons,← QK pre m (h m AD),ih (pre++[m]) (fun q hq=>h q (by simp [hq]))]
    simp
 have:=key mem [] h
 rw [List.nil_append] at this
 rw [← this]
 rfl
theorem Hg {mem:List Smp}(h:∀ m∈mem,1≤m.id∧m.id≤6):Ai mem=Dx (DT mem 6):=by unfold Ai; rw [Tg h]
theorem Og {mem:List Smp}(h:∀ m∈mem,1≤m.id∧m.id≤6){id:Int}(h1:1≤id) (h2:id≤6):partOf (Ai mem) id=rowsOf (EE mem) id:=by
 rw [Hg h,NW _ h1,List.getD_eq_getElem?_getD]
 unfold DT
 rw [List.getElem?_map,List.getElem?_range AB]
 simp only [Option.map_some,Option.getD_some]
 rw [show (((id - 1).toNat:Nat):Int)+1=id by omega]
def II (t id:Int) (mem:List Smp) (x:Option Row):Option Row:=mem.foldl (fun acc m=>if m.id=id∧m.row.t=t then some m.row else acc) x
theorem Ro (t id:Int):∀ (mem:List Smp) (x:Option Row),II t id mem x=(II t id mem none).or x:=by
 intro mem
 induction mem with
 | nil=>intro x; rfl
 | cons m ms ih =>
   intro x
   unfold II at ih ⊢
   rw [List.foldl_cons,List.foldl_cons]
   by_cases h:m.id=id∧m.row.t=t
   ·rw [if_pos h,if_pos h,ih (some m.row)]
    cases List.foldl (fun acc m=>if m.id=id∧m.row.t=t then some m.row else acc) none ms <;> rfl
   ·rw [if_neg h,if_neg h,ih x]
theorem D6 (t id:Int):∀ (mem:List Smp) (o:List Row),(∀ m∈mem,BU m.row=true)→Blk o→look t (mem.foldl (CR id) o)=II t id mem (look t o)∧Blk (mem.foldl (CR id) o):=by
 intro mem
 induction mem with
 | nil=>intro o _ ho; exact ⟨rfl,ho⟩
 | cons m ms ih =>
   intro o h ho
   have h1:Blk (CR id o m):=by
    unfold CR
    split
    ·exact ho.put (h m AD)
    ·exact ho
   obtain ⟨h2,h3⟩:=ih (CR id o m) (fun q hq=>h q (by simp [hq])) h1
   refine ⟨?_,h3⟩
   rw [List.foldl_cons,h2]
   unfold II
   rw [List.foldl_cons]
   congr 1
   by_cases hid:m.id=id
   ·rw [I0 hid ho,NU]
    by_cases ht:m.row.t=t
    ·rw [if_pos ht,if_pos ⟨hid,ht⟩]
    ·rw [if_neg ht,if_neg (fun e=>ht e.2)]
   ·rw [Fg hid,if_neg (fun e=>hid e.1)]
theorem mem_merge {id:Int}{mem:List Smp}{o:List Row}(h:∀ m∈mem,BU m.row=true) (ho:Blk o):mem.foldl (CR id) o=Bb o (rowsOf (EE mem) id):=by
 have a:=fun t=>(D6 t id mem o h ho).1
 have b:=fun t=>(D6 t id mem [] h Blk.nil).1
 have bb:Blk (rowsOf (EE mem) id):=(D6 0 id mem [] h Blk.nil).2
 refine Km (D6 0 id mem o h ho).2 (ho.merge bb) (fun t=>?_)
 rw [a,Ch t _ ho bb]
 have e:look t (rowsOf (EE mem) id)=II t id mem none:=b t
 rw [e,← Ro]
def Ci (s:Sto):Sto:=⟨s.idx,s.parts++[Ai s.mem],[]⟩
theorem Fi {id:Int}:∀ {ps:List Prt}{o:List Row},(∀ p∈ps,PrtI p)→Blk o→Blk (ps.foldl (Bq id) o):=by
 intro ps
 induction ps with
 | nil=>intro o _ ho; exact ho
 | cons p ps ih=>intro o hp ho; exact ih (fun q hq=>hp q (by simp [hq])) (ho.merge ((hp p AD).of id))
theorem Hh {s:Sto}(h:StoK s){id:Int}(h1:1≤id) (h2:id≤6):rowsOf (Ci s) id=rowsOf s id:=by
 unfold rowsOf Ci
 simp only [List.foldl_append,List.foldl_cons,List.foldl_nil]
 have hb:Blk (s.parts.foldl (Bq id) []):=Fi h.sd.part Blk.nil
 rw [mem_merge h.row hb]
 unfold Bq
 rw [Og h.Jm.Iq h1 h2]
theorem PY {s:Sto}(h:StoK s) (id t:Int):((look t (s.parts.foldl (Bq id) [])).isSome=true∨(look t (rowsOf (EE s.mem) id)).isSome=true)→(look t (rowsOf s id)).isSome=true:=by
 intro h1
 have hb:Blk (s.parts.foldl (Bq id) []):=Fi h.sd.part Blk.nil
 have bb:Blk (rowsOf (EE s.mem) id):=(D6 0 id s.mem [] h.row Blk.nil).2
 have e:rowsOf s id=Bb (s.parts.foldl (Bq id) []) (rowsOf (EE s.mem) id):=mem_merge h.row hb
 rw [e,Ch t _ hb bb]
 rcases h1 with h1 | h1
 ·cases look t (rowsOf (EE s.mem) id) with
  | none=>exact h1
  | some q=>rfl
 ·obtain ⟨q,hq⟩:=Option.isSome_iff_exists.1 h1
  rw [hq]; rfl
theorem Th {s:Sto}(h:StoK s){id:Int}(h24:(rowsOf s id).length≤24):(rowsOf (EE s.mem) id).length≤24:=by
 have hb:Blk (s.parts.foldl (Bq id) []):=Fi h.sd.part Blk.nil
 have bb:Blk (rowsOf (EE s.mem) id):=(D6 0 id s.mem [] h.row Blk.nil).2
 have e:rowsOf s id=Bb (s.parts.foldl (Bq id) []) (rowsOf (EE s.mem) id):=mem_merge h.row hb
 refine Nat.le_trans (Md bb (b:=rowsOf s id) ?_ (fun t ht=>PY h id t (.inr ht))) h24
 rw [e]
 exact hb.merge bb
theorem Rp:∀ (bs:List (List Row)) (i:Nat) (o:Option Int),(∀ b∈bs,Blk b∧b.length≤24)→i+bs.length≤6→(∀ q,o=some q→q≤i)→Bo o (BJ i bs).1 (BJ i bs).2=true:=by
 intro bs
 induction bs with
 | nil=>intro i o _ _ _; rfl
 | cons b bs ih =>
   intro i o h hl ho
   simp only [List.length_cons] at hl
   unfold BJ
   by_cases hb:b.length > 0
   ·rw [if_pos hb]
    unfold Bo
    have h1:=ih (i+1) (some ((i:Int)+1)) (fun x hx=>h x (by simp [hx])) AB (fun q hq=>by cases hq; omega)
    obtain ⟨h2,h3⟩:=h b AD
    have h4:Bf b=true:=by
     unfold Bf
     have h2':Ca none b=true:=h2
     rw [h2',Bool.true_and,decide_eq_true_eq]; exact h3
    rw [h1,h4,decide_eq_true hb]
    have h5:inR ((i:Int)+1) 1 6=true:=by unfold inR; simp; omega
    rw [h5]
    cases o with
    | none=>rfl
    | some q =>
      have:=ho q rfl
      simp
      omega
   ·rw [if_neg hb]
    exact ih (i+1) o (fun x hx=>h x (by simp [hx])) AB (fun q hq=>by have:=ho q hq; omega)
theorem NX {bs:List (List Row)}(h:∀ b∈bs,Blk b∧b.length≤24) (hl:bs.length≤6):Au (Dx bs)=true:=by
 unfold Au
 have h1:=(La bs 0).1
 have h2:=Rp bs 0 none h AB AD
 have h3:Bo none (Dx bs).ids (Dx bs).blocks=true:=h2
 have h4:(Dx bs).ids.length=(Dx bs).blocks.length:=h1
 rw [h3,decide_eq_true h4]
 rfl
theorem QL:∀ (bs:List (List Row)) (i:Nat) (x:Int),x∈(BJ i bs).1→∃ k:Nat,x=(i:Int)+k+1∧∃ b,bs[k]? = some b∧0< b.length:=by
 intro bs
 induction bs with
 | nil=>intro i x h; simp [BJ] at h
 | cons b bs ih =>
   intro i x h
   unfold BJ at h
   by_cases hb:b.length > 0
   ·rw [if_pos hb] at h
    rcases List.mem_cons.1 h with rfl | h
    ·exact ⟨0,by simp,b,rfl,hb⟩
    ·obtain ⟨k,h1,c,h2,h3⟩:=ih (i+1) x h
     exact ⟨k+1,by rw [h1]; push_cast; omega,c,by simpa using h2,h3⟩
   ·rw [if_neg hb] at h
    obtain ⟨k,h1,c,h2,h3⟩:=ih (i+1) x h
    exact ⟨k+1,by rw [h1]; push_cast; omega,c,by simpa using h2,h3⟩
theorem Oh:∀ (bs:List (List Row)) (i:Nat),(∃ b∈bs,0< b.length)→(BJ i bs).1≠[]:=by
 intro bs
 induction bs with
 | nil=>rintro i ⟨b,hb,_⟩; cases hb
 | cons c bs ih =>
   rintro i ⟨b,hb,hl⟩
   unfold BJ
   by_cases hc:c.length > 0
   ·rw [if_pos hc]; simp
   ·rw [if_neg hc]
    rcases List.mem_cons.1 hb with rfl | hb
    ·exact absurd hl hc
    ·exact ih (i+1) ⟨b,hb,hl⟩
theorem NY {bs:List (List Row)}{n:Nat}(h:∀ b∈bs,Blk b∧b.length≤24) (hl:bs.length≤6) (h1:∃ b∈bs,0< b.length) (h2:∀ k b,bs[k]? = some b→0< b.length→k< n):Bk (Dx bs) n=true:=by
 unfold Bk
 rw [NX h hl,Bool.true_and]
 cases hx:(Dx bs).ids.getLast? with
 | none=>exact absurd (List.getLast?_eq_none_iff.1 hx) (Oh bs 0 h1)
 | some x =>
   obtain ⟨k,e,b,hb,hb2⟩:=QL bs 0 x (List.mem_of_getLast? hx)
   have:=h2 k b hb hb2
   simp
   omega
theorem Rq {mem:List Smp}(h:∀ m∈mem,1≤m.id∧m.id≤6∧BU m.row=true) (hm:mem≠[]):∃ b∈DT mem 6,0< b.length:=by
 obtain ⟨m,hl⟩:∃ m,m∈mem:=List.exists_mem_of_ne_nil mem hm
 have hid:=h m hl
 have hr:∀ m∈mem,BU m.row=true:=fun m hm=>(h m hm).2.2
 refine ⟨rowsOf (EE mem) m.id,?_,?_⟩
 ·unfold DT
  refine List.mem_map.2 ⟨(m.id - 1).toNat,by simp; omega,?_⟩
  rw [show (((m.id - 1).toNat:Nat):Int)+1=m.id by omega]
 ·have h1:(look m.row.t (rowsOf (EE mem) m.id)).isSome=true:=by
   have e:look m.row.t (rowsOf (EE mem) m.id)=II m.row.t m.id mem none:=(D6 m.row.t m.id mem [] hr Blk.nil).1
   rw [e]
   have key:∀ (ms:List Smp) (x:Option Row),x.isSome=true∨m∈ms→(II m.row.t m.id ms x).isSome=true:=by
    intro ms
    induction ms with
    | nil=>intro x hx; rcases hx with hx | hx; exact hx; cases hx
    | cons c cs ih =>
      intro x hx
      unfold II at ih ⊢
      rw [List.foldl_cons]
      by_cases hc:c.id=m.id∧c.row.t=m.row.t
      ·rw [if_pos hc]; exact ih _ (.inl rfl)
      ·rw [if_neg hc]
       rcases hx with hx | hx
       ·exact ih _ (.inl hx)
       ·rcases List.mem_cons.1 hx with rfl | hx
        ·exact absurd ⟨rfl,rfl⟩ hc
        ·exact ih _ (.inr hx)
   exact key mem none (.inr hl)
  obtain ⟨q,hq⟩:=Option.isSome_iff_exists.1 h1
  exact List.length_pos_of_mem (JA hq).2
theorem PZ {s:Sto}(h:StoK s){id:Int}(hi:(s.idx.names.length:Int)< id):rowsOf (EE s.mem) id=[]:=by
 have key:∀ (mem:List Smp) (o:List Row),(∀ m∈mem,m.id≠id)→mem.foldl (CR id) o=o:=by
  intro mem
  induction mem with
  | nil=>intro o _; rfl
  | cons m ms ih =>
    intro o h
    rw [List.foldl_cons,Fg (h m AD)]
    exact ih o (fun x hx=>h x (by simp [hx]))
 exact key s.mem [] (fun m hm=>by have:=(h.id m hm).2; omega)
theorem IJ {s:Sto}(h:SD s) (hk:Ac s=true) (h1:s.mem≠[]) (h2:s.parts.length< 6):Ac (Ci s)=true:=by
 have hK:=StoK.of h hk
 have hk2:=hk
 unfold Ac at hk2 ⊢
 simp only [AW,decide_eq_true_eq,List.all_eq_true,List.mem_range,Ei] at hk2 ⊢
 obtain ⟨⟨⟨⟨a1,a2⟩,a3⟩,a4⟩,a5⟩:=hk2
 have hn:=h.nm.len
 have h24:∀ i< s.idx.names.length,(rowsOf (EE s.mem) ((i:Int)+1)).length≤24:=fun i hi=>Th hK (a5 i hi)
 have hpos:∀ k b,(DT s.mem 6)[k]? = some b→0< b.length→k< s.idx.names.length:=fun k b hb hl=>by
  unfold DT at hb
  rw [List.getElem?_map] at hb
  by_cases hk6:k< 6
  ·rw [List.getElem?_range hk6] at hb
   simp only [Option.map_some,Option.some.injEq] at hb
   subst hb
   by_cases hlt:k< s.idx.names.length
   ·exact hlt
   ·rw [PZ hK (id:=(k:Int)+1) AB] at hl
    cases hl
  ·rw [List.getElem?_eq_none (by simp; omega)] at hb
   cases hb
 refine ⟨⟨⟨⟨by simp [Ci]; omega,by simp [Ci]⟩,fun p hp=>?_⟩,by simp [Ci]⟩,fun i hi=>?_⟩
 ·rcases List.mem_append.1 hp with hp | hp
  ·exact a3 p hp
  ·simp only [List.mem_cons,List.not_mem_nil,or_false] at hp
   subst hp
   rw [Hg hK.Jm.Iq]
   refine NY (fun b hb=>?_) (by rw [Gt]; omega) (Rq (fun m hm=>⟨(hK.Jm.Iq m hm).1,(hK.Jm.Iq m hm).2,hK.row m hm⟩) h1) hpos
   unfold DT at hb
   obtain ⟨i,hi,rfl⟩:=List.mem_map.1 hb
   refine ⟨(D6 0 _ s.mem [] hK.row Blk.nil).2,?_⟩
   by_cases hlt:i< s.idx.names.length
   ·exact h24 i hlt
   ·rw [PZ hK (id:=(i:Int)+1) AB]
    simp
 ·have hi2:i< s.idx.names.length:=hi
  rw [Hh hK AB AB]
  exact a5 i hi2
def Bj (s:Sto):Sto × Bool:=if Ac s then BE (AZ s) else (⟨⟨[],[]⟩,[],[]⟩,false)
theorem JB {s:Sto}(h:Ac s=false):Bj s=(⟨⟨[],[]⟩,[],[]⟩,false):=by unfold Bj; rw [if_neg (by simp [h])]
theorem Hk {s:Sto}(h:Ac s=true):Bj s=BE (AZ s):=by unfold Bj; rw [if_pos h]
theorem Mf {s:Sto}(h:Ac s=true):s.parts.length≤6:=by
 unfold Ac at h
 simp only [AW,decide_eq_true_eq] at h
 exact h.1.1.1.1
theorem Gu {s:Sto}(_h:SD s) (hk:Ac s=true) (h1:(s.mem.length:Int)=0∨(s.parts.length:Int)=6):Bj s=(AZ s,false):=by
 rw [Hk hk]
 unfold BE
 have e1:(AZ s).mem.length=s.mem.length:=rfl
 have e2:(AZ s).parts.length=s.parts.length:=rfl
 rw [if_pos AB]
theorem IK {s:Sto}(_h:SD s) (hk:Ac s=true) (h1:(s.mem.length:Int)≠0) (h2:(s.parts.length:Int)≠6):Bj s=(⟨(AZ s).idx,(AZ s).parts++[Ai s.mem],[]⟩,true):=by
 rw [Hk hk]
 unfold BE
 have e1:(AZ s).mem.length=s.mem.length:=rfl
 have e2:(AZ s).parts.length=s.parts.length:=rfl
 have:=Mf hk
 rw [if_neg AB]
 rfl
theorem Pa {mem:List Smp}{k:Nat}(hk:1≤k):DT mem (k+1 - 1)=DT mem (k - 1)++[rowsOf (EE mem) (k:Int)]:=by
 rw [show k+1 - 1=(k - 1)+1 by omega,QJ,show ((k - 1:Nat):Int)+1=(k:Int) by omega]
theorem Ti {mem:List Smp}{k:Nat}{a:List Int}(h:a=(BJ 0 (DT mem (k - 1))).1) (hk:1≤k) (hl:((rowsOf (EE mem) (k:Int)).length:Int) > 0):a++[(k:Int)]=(BJ 0 (DT mem (k+1 - 1))).1:=by
 rw [Pa hk,DN,if_pos AB,h,Gt,show ((0:Nat):Int)+((k - 1:Nat):Int)+1=(k:Int) by omega]
theorem Tj {mem:List Smp}{k:Nat}{a:List Int}(h:a=(BJ 0 (DT mem (k - 1))).1) (hk:1≤k) (hl:¬ ((rowsOf (EE mem) (k:Int)).length:Int) > 0):a=(BJ 0 (DT mem (k+1 - 1))).1:=by
 rw [Pa hk,DN,if_neg AB,h]
theorem Tk {mem:List Smp}{k:Nat}{a:List (List Row)}(h:a=(BJ 0 (DT mem (k - 1))).2) (hk:1≤k) (hl:((rowsOf (EE mem) (k:Int)).length:Int) > 0):a++[rowsOf (EE mem) (k:Int)]=(BJ 0 (DT mem (k+1 - 1))).2:=by
 rw [Pa hk,DN,if_pos AB,h]
theorem Tl {mem:List Smp}{k:Nat}{a:List (List Row)}(h:a=(BJ 0 (DT mem (k - 1))).2) (hk:1≤k) (hl:¬ ((rowsOf (EE mem) (k:Int)).length:Int) > 0):a=(BJ 0 (DT mem (k+1 - 1))).2:=by
 rw [Pa hk,DN,if_neg AB,h]
theorem V8 {mem:List Smp}{k:Nat}{a:List Int}{b:List (List Row)}(hm:∀ m∈mem,1≤m.id∧m.id≤6) (hk:k=7) (ha:a=(BJ 0 (DT mem (k - 1))).1) (hb:b=(BJ 0 (DT mem (k - 1))).2):(⟨a,b⟩:Prt)=Ai mem:=by
 subst hk ha hb
 rw [Hg hm]
 rfl
end Go.Proofs.YtggnnidleedpaaaGreat
