/- Sorting by insertion: rules, the order of tags, what a round keeps. No conditions. -/
import Derived.Test.YtganlmloonielaaGreatTazMod16
import Derived.Test.YtganlmloonielaaGreatTazLen
set_option linter.unusedVariables false
set_option linter.unusedSimpArgs false
namespace Go.Proofs.YtganlmloonielaaGreat
section
variable {P:Program} {S:Nat→Prop} {n m:Nat} {L:Env→World→Prop} {ops:Array Oper} {l:List Nat} {e:Env} {w:World}
theorem GE.GO {i:Nat} {t':TypeId} {b o:Nat} {cs:List Value} (k:Nat) (vs:List Value) (hc:Has w ⟨b,o,none⟩ cs) (h:loadAt n ops i e=some (t',⟨b,o+k,none⟩)) (hs:GL P t' vs.length=true) (hv:(cs.drop k).take vs.length=vs)
 (H:∀ w1,Ext w w1→GA P S n m L ops (i::l) (BL e (An ops i).dst (.agg vs.toArray)) w1):GE P S n m L ops l i e w:=fun w1 hx=>by
 rw [(run_load (P:=P) (w:=w1) h ((hc.ext hx).Lk k vs hs hv)).2]
 exact ⟨Chg.refl S _,H w1 hx⟩
theorem GE.Ds {α:Type} [Rep α] {i r t N c q k:Nat} {F:Nat→Prop} {xs:List α} {t':TypeId} {x:α} {cs:List Value} {v:Value} (x':α) (ho:Own w r t F N c xs) (hx:xs[q]? = some x)
 (hh:Has w ⟨r,0+q * Rep.sz α,none⟩ cs) (hr:Rep.rep w (fun b=>F b∧b≠r) x' (BM cs k v.cells.toList)) (h:storeAt n ops i e=some (t',⟨r,0+q * Rep.sz α+k,none⟩,v)) (hl:Nat.beq cs.length (Rep.sz α)=true)
 (hs:(GM P t' v.cells.size&&Nat.ble (k+v.cells.size) cs.length&&v.cells.toList.all EH)=true)
 (H:∀ w1,Ext w w1→∀ w2,Own w2 r t F N c (xs.set q x')→Chg (Go.Proofs.YtganlmloonielaaGreat.one r) w1 w2→w2.heap.size=w1.heap.size→Chg S w1 w2∧GA P S n m L ops (i::l) (BL e (An ops i).dst undef) w2):GE P S n m L ops l i e w:=fun w1 hx1=>by
 rw [Nat.zero_add] at hh h
 have hr1:Rep.rep w1 (fun b=>F b∧b≠r) x' (BM cs k v.cells.toList):=Rep.frame hr (fun b hb hF=>⟨hF,hx1.block hb⟩)
 obtain ⟨w2,hrun,ho',hx',hsz⟩:=(ho.ext hx1).store (P:=P) (t':=t') (k:=k) hx (hh.ext hx1) (Nat.eq_of_beq_eq_true hl) hs hr1
 rw [JH h hrun]
 obtain ⟨h1,h2⟩:=H w1 hx1 w2 ho' hx' hsz
 exact ⟨h1,h2⟩
end
theorem Own.Ol {α:Type} [Rep α] {w:World} {r t n c:Nat} {F:Nat→Prop} {xs:List α} (h:Own w r t F n c xs):Own w r t (nin F [r]) n c xs :=
 ⟨h.len,h.le,h.cap,h.row,fun i x hi=>by
  obtain ⟨cs,h1,h2⟩:=h.elem i x hi
  exact ⟨cs,Rep.frame h1 (fun b _ hF=>⟨⟨⟨hF.1,by simp; exact hF.2⟩,hF.2⟩,rfl⟩),h2⟩⟩
theorem Own.Mr {α:Type} [Rep α] {w:World} {r t n c:Nat} {F:Nat→Prop} {xs:List α} (h:Own w r t (nin F [r]) n c xs):Own w r t F n c xs:=h.CJ fun _ _ hF=>hF.1
theorem Nr (a b:UInt8) (x y:Str):Bq (a::x) (b::y)=(decide (a< b) || a==b&&Bq x y):=rfl
theorem JL:∀ (x y z:Str),Bq x y=true→Bq y z=true→Bq x z=true:=by
 intro x
 induction x with
 | nil =>
   intro y z h1 h2
   cases z with
   | nil=>cases y <;> simp [Bq,Op.bytesLess] at h2
   | cons=>rfl
 | cons a x ih =>
   intro y z h1 h2
   cases y with
   | nil=>simp [Bq,Op.bytesLess] at h1
   | cons b y =>
     cases z with
     | nil=>simp [Bq,Op.bytesLess] at h2
     | cons c z =>
       rw [Nr] at h1 h2 ⊢
       simp only [Bool.or_eq_true,decide_eq_true_eq,AR,beq_iff_eq] at h1 h2 ⊢
       rcases h1 with h1 | ⟨h1,h3⟩
       ·rcases h2 with h2 | ⟨h2,h4⟩
        ·left
         have g1:=UInt8.lt_iff_toNat_lt.1 h1
         have g2:=UInt8.lt_iff_toNat_lt.1 h2
         exact UInt8.lt_iff_toNat_lt.2 AB
        ·left; rw [← h2]; exact h1
       ·rcases h2 with h2 | ⟨h2,h4⟩
        ·left; rw [h1]; exact h2
        ·right; exact ⟨h1.trans h2,ih y z h3 h4⟩
theorem It {x y:Str} (h1:Bq x y=false) (h2:Bq y x=false):x=y:=by
 have:=Hz x y
 unfold Ev at this
 unfold Bq at h1 h2 this
 rw [h1,h2] at this
 simpa using this
theorem Ga {a b c:Tag} (h1:DF a b=true) (h2:DF b c=true):DF a c=true:=by
 unfold DF at *
 simp only [Bool.or_eq_true,AR,beq_iff_eq] at *
 rcases h1 with h1 | ⟨h1,h3⟩
 ·rcases h2 with h2 | ⟨h2,h4⟩
  ·exact .inl (JL _ _ _ h1 h2)
  ·exact .inl (h2▸h1)
 ·rcases h2 with h2 | ⟨h2,h4⟩
  ·exact .inl (h1▸h2)
  ·exact .inr ⟨h1.trans h2,JL _ _ _ h3 h4⟩
theorem LH (a:Tag):DF a a=false:=by unfold DF; simp [Gs]
theorem LI {a b:Tag} (h1:DF a b=false) (h2:DF b a=false):a=b:=by
 unfold DF at h1 h2
 simp only [Bool.or_eq_false_iff,Bool.and_eq_false_iff] at h1 h2
 have hk:=It h1.1 h2.1
 have hv:a.val=b.val:=by
  rcases h1.2 with h | h
  ·rw [hk] at h; simp at h
  ·rcases h2.2 with h' | h'
   ·rw [hk] at h'; simp at h'
   ·exact It h h'
 cases a; cases b
 simp only at hk hv
 rw [hk,hv]
theorem L1 (a b:Pst):Ks a b< 0↔DF a.tag b.tag=true:=by
 unfold Ks HT DF
 cases h1:Bq a.tag.key b.tag.key with
 | true=>simp [orF]
 | false =>
   cases h2:Bq b.tag.key a.tag.key with
   | true =>
     have:¬ a.tag.key=b.tag.key:=fun e=>by rw [e,Gs] at h2; cases h2
     simp [orF,this]
   | false =>
     have e:=It h1 h2
     cases h3:Bq a.tag.val b.tag.val with
     | true=>simp [orF,e]
     | false =>
       cases h4:Bq b.tag.val a.tag.val <;> simp [orF]
def Le (a b:Pst):Prop:=¬ Ks b a< 0
theorem Le.of_lt {a b:Pst} (h:Ks a b< 0):Le a b:=fun h2=>by
 rw [L1] at h h2
 have:=Ga h h2
 rw [LH] at this
 cases this
theorem Le.trans {a b c:Pst} (h1:Le a b) (h2:Le b c):Le a c:=by
 unfold Le at *
 rw [L1] at *
 intro h
 cases h3:DF b.tag c.tag with
 | true=>exact h1 (Ga h3 h)
 | false =>
   have e:=LI h3 (by simpa using h2)
   rw [← e] at h
   exact h1 h
def Bh (xs:List Pst) (i j:Nat):Prop :=
 j≤i∧i< xs.length∧(xs.take j++(xs.take (i+1)).drop (j+1)).Pairwise Le∧∀ x,xs[j]? = some x→∀ y∈(xs.take (i+1)).drop (j+1),Le x y
theorem Bh.start {xs:List Pst} {i:Nat} (h:(xs.take i).Pairwise Le) (hi:i< xs.length):Bh xs i i:=by
 have:(xs.take (i+1)).drop (i+1)=[]:=List.drop_of_length_le (by simp; omega)
 refine ⟨Nat.le_refl _,hi,?_,?_⟩
 ·rw [this,List.append_nil]; exact h
 ·rw [this]; intro _ _ y hy; cases hy
theorem Qz {α:Type} {xs:List α} {j:Nat} {x y:α} (hx:xs[j]? = some x) (hy:xs[j - 1]? = some y) (hj:0< j):∃ A D,xs=A++y::x::D∧A.length=j - 1:=by
 refine ⟨xs.take (j - 1),xs.drop (j+1),?_,?_⟩
 ·have h1:=AX hy
  rw [show j - 1+1=j by omega,AX hx] at h1
  rw [← h1,List.take_append_drop]
 ·obtain ⟨h1,_⟩:=List.getElem?_eq_some_iff.1 hy
  rw [List.length_take]; omega
theorem swap_eq {α:Type} (A D:List α) (x y:α):((A++y::x::D).set (A.length+1) y).set A.length x=A++x::y::D:=by
 simp
theorem swap_perm {xs:List Pst} {j:Nat} {x y:Pst} (hx:xs[j]? = some x) (hy:xs[j - 1]? = some y) (hj:0< j):((xs.set j y).set (j - 1) x).Perm xs:=by
 obtain ⟨A,D,rfl,hA⟩:=Qz hx hy hj
 rw [show j=A.length+1 by omega,Nat.add_sub_cancel,swap_eq]
 exact List.Perm.append_left A (List.Perm.swap y x D)
theorem Bh.step {xs:List Pst} {i j:Nat} {x y:Pst} (h:Bh xs i j) (hj:0< j) (hx:xs[j]? = some x) (hy:xs[j - 1]? = some y) (hc:Ks x y< 0):Bh ((xs.set j y).set (j - 1) x) i (j - 1):=by
 obtain ⟨h1,h2,h3,h4⟩:=h
 have h5:=h4 x hx
 obtain ⟨A,D,rfl,hA⟩:=Qz hx hy hj
 have hj2:j=A.length+1:=by omega
 subst hj2
 have e1:(A++y::x::D).take (A.length+1)=A++[y]:=by rw [List.take_length_add_append]; rfl
 have e2:∀ a b:Pst,((A++a::b::D).take (i+1)).drop (A.length+1+1)=D.take (i - A.length - 1):=by
  intro a b
  rw [List.drop_take,show (A++a::b::D).drop (A.length+1+1)=D from (List.drop_length_add_append (l₁:=A) (l₂:=a::b::D) (i:=2))]
  congr 1
  omega
 have e3:((A++x::y::D).take (i+1)).drop (A.length+1)=y::D.take (i - A.length - 1):=by
  rw [List.drop_take,show (A++x::y::D).drop (A.length+1)=y::D from (List.drop_length_add_append (l₁:=A) (l₂:=x::y::D) (i:=1)),show i+1 - (A.length+1)=(i - A.length - 1)+1 by omega]
  rfl
 rw [e1,e2] at h3
 rw [e2] at h5
 rw [Nat.add_sub_cancel,swap_eq]
 refine ⟨by omega,by simpa using h2,?_,?_⟩
 ·rw [e3,show (A++x::y::D).take A.length=A by simp]
  simpa using h3
 ·intro x' hx' z hz
  rw [e3] at hz
  have:x'=x:=by
   have hg:(A++x::y::D)[A.length]? = some x:=by simp
   rw [hg] at hx'
   cases hx'
   rfl
  subst this
  rcases List.mem_cons.1 hz with rfl | hz
  ·exact Le.of_lt hc
  ·exact h5 z hz
theorem Bh.exit {xs:List Pst} {i j:Nat} (h:Bh xs i j) (hj:j=0∨∃ x y,xs[j]? = some x∧xs[j - 1]? = some y∧¬ Ks x y< 0):(xs.take (i+1)).Pairwise Le:=by
 obtain ⟨h1,h2,h3,h4⟩:=h
 have hjl:j< xs.length:=by omega
 have hx:xs[j]? = some xs[j]:=AP hjl
 have h5:=h4 _ hx
 have e:xs.take (i+1)=xs.take j++xs[j]::(xs.take (i+1)).drop (j+1):=by
  have h6:(xs.take (i+1)).take j=xs.take j:=by rw [List.take_take,Nat.min_eq_left AB]
  have h7:(xs.take (i+1))[j]? = some xs[j]:=by rw [List.getElem?_take,if_pos AB]; exact hx
  rw [← h6,← AX h7,List.take_append_drop]
 rw [e]
 rw [List.pairwise_append] at h3 ⊢
 obtain ⟨g1,g2,g3⟩:=h3
 have key:∀ a∈xs.take j,Le a xs[j]:=by
  intro a ha
  rcases hj with rfl | ⟨x,y,hx',hy,hc⟩
  ·simp at ha
  ·have:x=xs[j]:=by rw [hx] at hx'; cases hx'; rfl
   subst this
   by_cases hj0:j=0
   ·subst hj0; simp at ha
   ·have hyl:xs.take j=xs.take (j - 1)++[y]:=by
     obtain ⟨k,rfl⟩:∃ k,j=k+1:=⟨j - 1,by omega⟩
     rw [Nat.add_sub_cancel] at hy
     rw [List.take_add_one,hy]
     simp
    have hyc:Le y xs[j]:=hc
    rw [hyl] at ha g1
    rcases List.mem_append.1 ha with ha | ha
    ·exact Le.trans ((List.pairwise_append.1 g1).2.2 a ha y (by simp)) hyc
    ·simp at ha; subst ha; exact hyc
 refine ⟨g1,List.pairwise_cons.2 ⟨h5,g2⟩,fun a ha b hb=>?_⟩
 rcases List.mem_cons.1 hb with rfl | hb
 ·exact key a ha
 ·exact g3 a ha b hb
theorem Bh.Tw {xs:List Pst} {i:Nat} {j:Int} {x y:Pst} (h:Bh xs i j.toNat) (hj:j > 0) (hx:xs[j.toNat]? = some x) (hy:xs[(j - 1).toNat]? = some y) (hc:Ks x y< 0):Bh ((xs.set j.toNat y).set (j - 1).toNat x) i (j - 1).toNat:=by
 rw [show (j - 1).toNat=j.toNat - 1 by omega] at *
 exact h.step AB hx hy hc
theorem KM {xs xs0:List Pst} {j:Int} {x y:Pst} (hx:xs[j.toNat]? = some x) (hy:xs[(j - 1).toNat]? = some y) (hj:j > 0) (h:xs.Perm xs0):((xs.set j.toNat y).set (j - 1).toNat x).Perm xs0:=by
 rw [show (j - 1).toNat=j.toNat - 1 by omega] at *
 exact (swap_perm hx hy AB).trans h
theorem Bh.Vc {xs:List Pst} {i:Nat} {j:Int} (h:Bh xs i j.toNat) (hj:¬ j > 0):(xs.take (i+1)).Pairwise Le:=h.exit (.inl AB)
theorem Bh.Vd {xs:List Pst} {i:Nat} {j:Int} {x y:Pst} (h:Bh xs i j.toNat) (hj:j > 0) (hx:xs[j.toNat]? = some x) (hy:xs[(j - 1).toNat]? = some y) (hc:¬ Ks x y< 0):(xs.take (i+1)).Pairwise Le:=by
 rw [show (j - 1).toNat=j.toNat - 1 by omega] at hy
 exact h.exit (.inr ⟨x,y,hx,hy,hc⟩)
end Go.Proofs.YtganlmloonielaaGreat
namespace Go.Proofs.YtganlmloonielaaGreat
set_option maxRecDepth 100000
set_option maxHeartbeats 4000000
theorem JZ {w:World} {F:Nat→Prop} {r n c:Nat} {xs0:List Pst} (ho:Own w r 149 F n c xs0):Calls Tryz.prog 191 [.slice (some ⟨r,0,none⟩) n c,.int .i64 0,.int .i64 (n:Int),.func (.func 155) #[] #[]].toArray w (As fun rv w'=>rv=.tuple #[]∧∃ zs,zs.Perm xs0∧zs.Pairwise Le∧Own w' r 149 F n c zs∧Chg (one r) w w'):=by
 refine goT Tryz.func191 ?_
 replace ho:=ho.Ol; have hnl:=ho.len; have hnm:=ho.max
 refine .s<|.g<|.r 1<|.it (1)<|.r 1<|.d<|.b 0<|T.loop (X:=Nat × (List Pst)) (1,xs0) (fun (i,xs)=>[(0,vS r n c),(1,vI 0),(2,vI (n:Int)),(3,.func (.func 155) #[] #[]),(8,vI (i:Int))]) (fun (i,xs) aM=>Chg (ins [r]) w aM∧Own aM r 149 (nin F [r]) n c xs∧(1≤i)∧(xs.Perm xs0)∧((xs.take i).Pairwise Le)) (fun (i,xs)=>n - i) AA ⟨AA,AA,AA,AA,AA,trivial⟩ ⟨Chg.refl _ _,ho,AB,(by exact List.Perm.refl _),(by cases xs0 <;> simp)⟩ ?_
 rintro ⟨i,xs⟩ dq aM ⟨C,aJ,cI,cJ,cK⟩ au
 have cL:Cov (ins [r]) w r:=⟨.inl AD⟩
 have E:Chg (one r) w aM:=Chg.CY (Chg.refl (one r) w) C (all_cons (Cov.mk1 w r) all_nil)
 have cM:=aJ.len; have cN:=aJ.max
 refine .s<|.s<|.g<|.r 2<|.bp ((i:Int)< (n:Int)) (fun bZ=>?_) (fun bZ=>.d<|.cf<|.x 0 rfl<|T.JG Tryz.func191 Tryz.results191 ⟨rfl,_,(by assumption:xs.Perm xs0),(by have q1:(xs.take i).Pairwise Le:=‹_›; rw [List.take_of_length_le AB] at q1; exact q1),aJ.Mr,E⟩)
 refine .d<|.ct<|.sk<|.s<|.b 1<|.s<|.g<|.r 2<|.d<|.b 2<|T.loop (X:=Int × (List Pst)) ((i:Int),xs) (fun (j,aa)=>[(0,vS r n c),(1,vI 0),(2,vI (n:Int)),(3,.func (.func 155) #[] #[]),(8,vI (i:Int)),(9,vI j)]) (fun (j,aa) bE=>Chg (ins [r]) aM bE∧Own bE r 149 (nin F [r]) n c aa∧(0≤j)∧(aa.Perm xs0)∧(Bh aa i j.toNat)) (fun (j,aa)=>j.toNat) AA ⟨AA,AA,AA,AA,AA,AA,trivial⟩ ⟨Chg.refl _ _,aJ,AB,‹_›,(by exact Bh.start ‹_› AB)⟩ ?_
 rintro ⟨j,aa⟩ dr bE ⟨O,J,cO,cP,cQ⟩ av
 have cR:Cov (ins [r]) aM r:=⟨.inl AD⟩
 replace ⟨E,C⟩:=(si O).g2 E C
 have cS:=J.len; have cT:=J.max
 refine .s<|.s<|.gd nil 14 fun b0 bm=>?_
 replace ⟨J,E,C,O⟩:=(se [r] bm).g4 J E C O
 refine .r [0,1]<|GA.EE (i:=2) (j > 0) AA (fun b6=>?_) (fun b6=>?_)
 ·refine .r [3,4,5,6] ?_
  have b7:(j).toNat< n:=(by have q1:Bh aa i j.toNat:=‹_›; have q2:=q1.1; have q3:=q1.2.1; omega)
  refine GA.idx (i:=7) (b:=r) (o:=0) ((j).toNat) (len:=n) (z:=j) (sz:=3) AA (by have q1:Bh aa i j.toNat:=‹_›; have q2:=q1.1; have q3:=q1.2.1; omega) b7 rfl ?_
  obtain ⟨W,ag⟩:∃ y,aa[(j).toNat]? = some y:=⟨_,AP (by have q1:Bh aa i j.toNat:=‹_›; have q2:=q1.1; have q3:=q1.2.1; omega)⟩
  have cU:=AX ag; have cw:=AQ ag
  obtain ⟨_,⟨cy,dt,cz,rfl,ay⟩,aN⟩:=J.elem ((j).toNat) W ag
  replace ay:=ay.CJ (fun _ _ h=>h.1)
  have b8:=ay.len
  subst b8
  have cV:=ay.max
  replace aN:Has b0 ⟨r,0+((j).toNat) * Rep.sz Pst,none⟩ [vT W.tag.key,vT W.tag.val,.slice cy W.ids.length cz]:=by rw [Nat.zero_add]; exact aN
  refine .lg 8 0 aN id<|.r [9,10]<|GA.int (i:=11) (j - 1) AA AB ?_
  have b9:(j - 1).toNat< n:=(by have q1:Bh aa i j.toNat:=‹_›; have q2:=q1.1; have q3:=q1.2.1; omega)
  refine GA.idx (i:=12) (b:=r) (o:=0) ((j - 1).toNat) (len:=n) (z:=j - 1) (sz:=3) AA (by have q1:Bh aa i j.toNat:=‹_›; have q2:=q1.1; have q3:=q1.2.1; omega) b9 rfl ?_
  obtain ⟨ab,aw⟩:∃ y,aa[(j - 1).toNat]? = some y:=⟨_,AP (by have q1:Bh aa i j.toNat:=‹_›; have q2:=q1.1; have q3:=q1.2.1; omega)⟩
  have cW:=AX aw; have cx:=AQ aw
  obtain ⟨_,⟨cA,du,cB,rfl,az⟩,aO⟩:=J.elem ((j - 1).toNat) ab aw
  replace az:=az.CJ (fun _ _ h=>h.1)
  have cd:=az.len
  subst cd
  have cX:=az.max
  replace aO:Has b0 ⟨r,0+((j - 1).toNat) * Rep.sz Pst,none⟩ [vT ab.tag.key,vT ab.tag.val,.slice cA ab.ids.length cB]:=by rw [Nat.zero_add]; exact aO
  refine .lg 13 0 aO id<|.d fun cC bn=>?_
  replace ⟨J,ay,az,E,C,O⟩:=(se [r] bn).g6 J ay az E C O
  refine .cl (Iq W ab ay.ta az.ta (w:=cC) (F:=all)) ?_
  rintro dv bF ⟨rfl,bo⟩
  replace ⟨J,E,C,O⟩:=(se [r] bo).g4 J E C O
  refine .bp (Ks W ab< 0) (fun ce=>?_) (fun ce=>.r 1<|.d<|.cf<|.x 2 rfl<|.ib 1<|.g<|.r 1<|.it ((i:Int)+1)<|.r 1<|.d<|au (i+1,aa) _ _ ⟨AA,AA,AA,AA,AA,trivial⟩ ⟨C,J,AB,‹_›,(by exact Bh.Vd ‹_› ‹_› ‹_› ‹_› ‹_›)⟩ (by (simp only []; omega)))
  refine .r 1<|.d<|.ct<|.sk<|.s<|.b 3 ?_
  have bq:Cov (mtb [r] bF.heap.size) bF r:=⟨.inl (.inl AD)⟩
  refine .gd (mtb [r] bF.heap.size) 16 fun cg br=>?_
  replace ⟨J,E,C,O⟩:=(se [r] br).g4 J E C O
  refine .r [0,1,2,3]<|GA.int (i:=4) (j - 1) AA AB<|.r [5,6]<|GA.int (i:=7) (j - 1) AA AB ?_
  have ci:(j - 1).toNat< n:=(by have q1:Bh aa i j.toNat:=‹_›; have q2:=q1.1; have q3:=q1.2.1; omega)
  refine GA.idx (i:=8) (b:=r) (o:=0) ((j - 1).toNat) (len:=n) (z:=j - 1) (sz:=3) AA (by have q1:Bh aa i j.toNat:=‹_›; have q2:=q1.1; have q3:=q1.2.1; omega) ci rfl<|.r [10,11] ?_
  have cj:(j).toNat< n:=(by have q1:Bh aa i j.toNat:=‹_›; have q2:=q1.1; have q3:=q1.2.1; omega)
  refine GA.idx (i:=12) (b:=r) (o:=0) ((j).toNat) (len:=n) (z:=j) (sz:=3) AA (by have q1:Bh aa i j.toNat:=‹_›; have q2:=q1.1; have q3:=q1.2.1; omega) cj rfl<|.tw 9 13 ?_ ?_
  ·obtain ⟨_,⟨bG,dw,bH,rfl,ax⟩,aP⟩:=J.elem ((j - 1).toNat) ab aw
   replace ax:=ax.CJ (fun _ _ h=>h.1)
   have ck:=ax.len
   subst ck
   replace aP:Has cg ⟨r,0+((j - 1).toNat) * Rep.sz Pst,none⟩ [vT ab.tag.key,vT ab.tag.val,.slice bG ab.ids.length bH]:=by rw [Nat.zero_add]; exact aP
   refine GE.GO (t':=149) 0 [vT ab.tag.key,vT ab.tag.val,.slice bG ab.ids.length bH] aP AA AA AA fun cD bt=>?_
   replace ⟨J,ax,E,C,O⟩:=(se [r] bt).g5 J ax E C O
   refine .go 13 ?_
   obtain ⟨_,⟨aQ,cY,aR,rfl,af⟩,aA⟩:=J.elem ((j).toNat) W ag
   replace af:=af.CJ (fun _ _ h=>h.1)
   have bI:=af.len
   subst bI
   replace aA:Has cD ⟨r,0+((j).toNat) * Rep.sz Pst,none⟩ [vT W.tag.key,vT W.tag.val,.slice aQ W.ids.length aR]:=by rw [Nat.zero_add]; exact aA
   refine GE.GO (t':=149) 0 [vT W.tag.key,vT W.tag.val,.slice aQ W.ids.length aR] aA AA AA AA fun cm aS=>?_
   replace ⟨J,ax,af,E,C,O⟩:=(se [r] aS).g6 J ax af E C O
   have bJ:(j).toNat< n:=(by have q1:Bh aa i j.toNat:=‹_›; have q2:=q1.1; have q3:=q1.2.1; omega)
   refine GA.idx (i:=14) (b:=r) (o:=0) ((j).toNat) (len:=n) (z:=j) (sz:=3) AA (by have q1:Bh aa i j.toNat:=‹_›; have q2:=q1.1; have q3:=q1.2.1; omega) bJ rfl<|.go 15 ?_
   obtain ⟨_,⟨bu,cZ,bv,rfl,aT⟩,aB⟩:=J.elem ((j).toNat) W ag
   replace aT:=aT.CJ (fun _ _ h=>h.1)
   have bK:=aT.len
   subst bK
   replace aB:Has cm ⟨r,0+((j).toNat) * Rep.sz Pst,none⟩ [vT W.tag.key,vT W.tag.val,.slice bu W.ids.length bv]:=by rw [Nat.zero_add]; exact aB
   refine GE.Ds (t':=149) (q:=((j).toNat)) (k:=0) (v:=.agg #[vT ab.tag.key,vT ab.tag.val,.slice bG ab.ids.length bH]) (cs:=[vT W.tag.key,vT W.tag.val,.slice bu W.ids.length bv]) ab J ag aB ⟨_,_,_,rfl,ax.oi⟩ AA AA AA fun c7 aU=>?_
   replace ⟨J,af,E,C,O⟩:=(se [r] aU).g5 J af E C O
   intro c8 am aC bL
   have hkeep_:=Chg.toS aC (Cov.toS bq)
   replace ⟨af,E,C,O⟩:=(so [r] aC).g4 af E C O
   refine ⟨hkeep_,?_⟩
   refine .d fun co aV=>?_
   replace ⟨am,af,E,C,O⟩:=(se [r] aV).g5 am af E C O
   have bM:(j - 1).toNat< n:=(by have q1:Bh aa i j.toNat:=‹_›; have q2:=q1.1; have q3:=q1.2.1; omega)
   refine RG.idx (b:=r) (o:=0) ((j - 1).toNat) (len:=n) (i:=j - 1) (sz:=3) AA (by have q1:Bh aa i j.toNat:=‹_›; have q2:=q1.1; have q3:=q1.2.1; omega) bM rfl ?_
   obtain ⟨ah,ao⟩:∃ y,(aa.set ((j).toNat) ab)[(j - 1).toNat]? = some y:=⟨_,AP (by have q1:Bh aa i j.toNat:=‹_›; have q2:=q1.1; have q3:=q1.2.1; (rw [List.length_set]; omega))⟩
   have cE:=AX ao; have cp:=AQ ao
   obtain ⟨_,⟨bw,c9,bz,rfl,aK⟩,aD⟩:=am.elem ((j - 1).toNat) ah ao
   replace aK:=aK.CJ (fun _ _ h=>h.1)
   have bN:=aK.len
   subst bN
   have cF:=aK.max
   replace aD:Has co ⟨r,0+((j - 1).toNat) * Rep.sz Pst,none⟩ [vT ah.tag.key,vT ah.tag.val,.slice bw ah.ids.length bz]:=by rw [Nat.zero_add]; exact aD
   refine RG.Ds (t':=149) (i:=((j - 1).toNat)) (k:=0) (v:=.agg #[vT W.tag.key,vT W.tag.val,.slice aQ W.ids.length aR]) (cs:=[vT ah.tag.key,vT ah.tag.val,.slice bw ah.ids.length bz]) W am ao aD AA AA AA ⟨_,_,_,rfl,af.oi⟩ fun da bO aW bP=>?_
   replace ⟨E,C,O⟩:=(s1 aW).g3 E C O
   exact .d<|.ib 3<|.g<|.r 1<|.it (j - 1)<|.r 1<|.d<|av (j - 1,((aa.set ((j).toNat) ab).set ((j - 1).toNat) W)) _ _ ⟨AA,AA,AA,AA,AA,AA,trivial⟩ ⟨O,bO,AB,(by exact KM ‹_› ‹_› ‹_› ‹_›),(by exact Bh.Tw ‹_› ‹_› ‹_› ‹_› ‹_›)⟩ (by (simp only []; omega))
  obtain ⟨_,⟨aX,db,aY,rfl,ae⟩,aE⟩:=J.elem ((j).toNat) W ag
  replace ae:=ae.CJ (fun _ _ h=>h.1)
  have bQ:=ae.len
  subst bQ
  replace aE:Has cg ⟨r,0+((j).toNat) * Rep.sz Pst,none⟩ [vT W.tag.key,vT W.tag.val,.slice aX W.ids.length aY]:=by rw [Nat.zero_add]; exact aE
  refine GE.GO (t':=149) 0 [vT W.tag.key,vT W.tag.val,.slice aX W.ids.length aY] aE AA AA AA fun cq aZ=>?_
  replace ⟨J,ae,E,C,O⟩:=(se [r] aZ).g5 J ae E C O
  refine .go 9 ?_
  obtain ⟨_,⟨ba,de,bc,rfl,aj⟩,aF⟩:=J.elem ((j - 1).toNat) ab aw
  replace aj:=aj.CJ (fun _ _ h=>h.1)
  have bR:=aj.len
  subst bR
  replace aF:Has cq ⟨r,0+((j - 1).toNat) * Rep.sz Pst,none⟩ [vT ab.tag.key,vT ab.tag.val,.slice ba ab.ids.length bc]:=by rw [Nat.zero_add]; exact aF
  refine GE.GO (t':=149) 0 [vT ab.tag.key,vT ab.tag.val,.slice ba ab.ids.length bc] aF AA AA AA fun cr bd=>?_
  replace ⟨J,ae,aj,E,C,O⟩:=(se [r] bd).g6 J ae aj E C O
  have bS:(j).toNat< n:=(by have q1:Bh aa i j.toNat:=‹_›; have q2:=q1.1; have q3:=q1.2.1; omega)
  refine GA.idx (i:=14) (b:=r) (o:=0) ((j).toNat) (len:=n) (z:=j) (sz:=3) AA (by have q1:Bh aa i j.toNat:=‹_›; have q2:=q1.1; have q3:=q1.2.1; omega) bS rfl<|.go 15 ?_
  obtain ⟨_,⟨bA,df,bB,rfl,bg⟩,aG⟩:=J.elem ((j).toNat) W ag
  replace bg:=bg.CJ (fun _ _ h=>h.1)
  have bT:=bg.len
  subst bT
  replace aG:Has cr ⟨r,0+((j).toNat) * Rep.sz Pst,none⟩ [vT W.tag.key,vT W.tag.val,.slice bA W.ids.length bB]:=by rw [Nat.zero_add]; exact aG
  refine GE.Ds (t':=149) (q:=((j).toNat)) (k:=0) (v:=.agg #[vT ab.tag.key,vT ab.tag.val,.slice ba ab.ids.length bc]) (cs:=[vT W.tag.key,vT W.tag.val,.slice bA W.ids.length bB]) ab J ag aG ⟨_,_,_,rfl,aj.oi⟩ AA AA AA fun dg bh=>?_
  replace ⟨J,ae,E,C,O⟩:=(se [r] bh).g5 J ae E C O
  intro dh aq aH bU
  have hkeep_:=Chg.toS aH (Cov.toS bq)
  replace ⟨ae,E,C,O⟩:=(so [r] aH).g4 ae E C O
  refine ⟨hkeep_,?_⟩
  refine .d fun cu bi=>?_
  replace ⟨aq,ae,E,C,O⟩:=(se [r] bi).g5 aq ae E C O
  have bV:(j - 1).toNat< n:=(by have q1:Bh aa i j.toNat:=‹_›; have q2:=q1.1; have q3:=q1.2.1; omega)
  refine RG.idx (b:=r) (o:=0) ((j - 1).toNat) (len:=n) (i:=j - 1) (sz:=3) AA (by have q1:Bh aa i j.toNat:=‹_›; have q2:=q1.1; have q3:=q1.2.1; omega) bV rfl ?_
  obtain ⟨ai,ar⟩:∃ y,(aa.set ((j).toNat) ab)[(j - 1).toNat]? = some y:=⟨_,AP (by have q1:Bh aa i j.toNat:=‹_›; have q2:=q1.1; have q3:=q1.2.1; (rw [List.length_set]; omega))⟩
  have cG:=AX ar; have cv:=AQ ar
  obtain ⟨_,⟨bC,dj,bD,rfl,aL⟩,aI⟩:=aq.elem ((j - 1).toNat) ai ar
  replace aL:=aL.CJ (fun _ _ h=>h.1)
  have bW:=aL.len
  subst bW
  have cH:=aL.max
  replace aI:Has cu ⟨r,0+((j - 1).toNat) * Rep.sz Pst,none⟩ [vT ai.tag.key,vT ai.tag.val,.slice bC ai.ids.length bD]:=by rw [Nat.zero_add]; exact aI
  refine RG.Ds (t':=149) (i:=((j - 1).toNat)) (k:=0) (v:=.agg #[vT W.tag.key,vT W.tag.val,.slice aX W.ids.length aY]) (cs:=[vT ai.tag.key,vT ai.tag.val,.slice bC ai.ids.length bD]) W aq ar aI AA AA AA ⟨_,_,_,rfl,ae.oi⟩ fun dm bX bj bY=>?_
  replace ⟨E,C,O⟩:=(s1 bj).g3 E C O
  exact .d<|.ib 3<|.g<|.r 1<|.it (j - 1)<|.r 1<|.d<|av (j - 1,((aa.set ((j).toNat) ab).set ((j - 1).toNat) W)) _ _ ⟨AA,AA,AA,AA,AA,AA,trivial⟩ ⟨O,bX,AB,(by exact KM ‹_› ‹_› ‹_› ‹_›),(by exact Bh.Tw ‹_› ‹_› ‹_› ‹_› ‹_›)⟩ (by (simp only []; omega))
 refine .r [3]<|GA.skip AA fun dp bk=>?_
 replace ⟨J,E,C⟩:=(se [r] bk).g3 J E C
 exact .r 3<|.d<|.cf<|.x 2 rfl<|.ib 1<|.g<|.r 1<|.it ((i:Int)+1)<|.r 1<|.d<|au (i+1,aa) _ _ ⟨AA,AA,AA,AA,AA,trivial⟩ ⟨C,J,AB,‹_›,(by exact Bh.Vc ‹_› ‹_›)⟩ (by (simp only []; omega))
theorem PY {w:World} {F:Nat→Prop} {r n c:Nat} {xs0:List Pst} {z:Int} (ho:Own w r 149 F n c xs0) (hn:n≤12):Calls Tryz.prog 175 [.slice (some ⟨r,0,none⟩) n c,.int .i64 0,.int .i64 (n:Int),.int .i64 z,.func (.func 155) #[] #[]].toArray w (As fun rv w'=>rv=.tuple #[]∧∃ zs,zs.Perm xs0∧zs.Pairwise Le∧Own w' r 149 F n c zs∧Chg (one r) w w'):=by
 refine goT Tryz.func175 ?_
 replace ho:=ho.Ol; have hnl:=ho.len; have hnm:=ho.max
 refine .s<|.g<|.r 1<|.d<|.s<|.g<|.r 1<|.d<|.b 0<|T.loop (X:=Unit) () (fun _=>[(0,vS r n c),(1,vI 0),(2,vI (n:Int)),(3,vI z),(4,.func (.func 155) #[] #[]),(10,.bool true),(11,.bool true)]) (fun _ w_=>w_=w) (fun _=>0) AA ⟨AA,AA,AA,AA,AA,AA,AA,trivial⟩ rfl ?_
 rintro u_ e_ ae hw_ hl_; clear hl_; rw [hw_]; clear hw_
 refine .b 1<|.s<|.g<|.r 2<|.it ((n:Int) - 0)<|.r 1<|.d<|.s<|.s<|.g<|.r 1<|.bp ((n:Int) - 0≤12) (fun E=>?_) (fun E=>absurd (show False by omega) id)
 refine .d<|.ct<|.s<|.g<|.r 4<|.cl (JZ ho) ?_
 rintro af ab ⟨rfl,ac,J,O,W,C⟩
 have aa:Chg (one r) w ab:=Chg.Ew (Chg.refl (one r) w) C (Cov.mk1 w r)
 exact .d<|T.V5 AA Tryz.func175 Tryz.results175 ⟨rfl,_,J,O,W.Mr,aa⟩
theorem Ns {w:World} {n:Nat} (h:n≤1000):Calls Tryz.prog 176 [.int .u64 (n:Int)].toArray w (As fun rv w'=>∃ z:Int,rv=.int .i64 z∧Ext w w'):=by
 refine (Qy (n:Int) w AB AB).mono ?_
 rintro e w' ⟨rfl,rfl⟩
 exact ⟨_,rfl,_,rfl,Ext.refl _⟩
theorem Iu {w:World} {F:Nat→Prop} {r n c:Nat} {xs0:List Pst} (ho:Own w r 149 F n c xs0) (hn:n≤12):Calls Tryz.prog 154 [.slice (some ⟨r,0,none⟩) n c,.func (.func 155) #[] #[]].toArray w (As fun rv w'=>rv=.tuple #[]∧∃ zs,zs.Perm xs0∧zs.Pairwise Le∧Own w' r 149 F n c zs∧Chg (one r) w w'):=by
 refine goT Tryz.func154 ?_
 replace ho:=ho.Ol; have hnl:=ho.len; have hnm:=ho.max
 refine .s<|.g<|.r 3<|.d<|.g<|.r 3<|RG.eqv (v:=.int .u64 (n:Int)) (v':=.int .u64 (IntKind.u64.wrap (n:Int))) AA (by rw [IntWalk.u64_in _ AB])<|.cl (Ns (n:=n) AB) ?_
 rintro af ab ⟨ac,rfl,C⟩
 replace ho:=(se [r] C).g1 ho
 have E:Chg (one r) w ab:=Chg.Cc (Chg.refl (one r) w) C
 refine .r 1<|.cl (PY ho AB (z:=ac)) ?_
 rintro ag ah ⟨rfl,ae,O,W,aa,J⟩
 replace E:=(s1 J).g1 E
 exact .d<|T.JG Tryz.func154 Tryz.results154 ⟨rfl,_,O,W,aa.Mr,E⟩
end Go.Proofs.YtganlmloonielaaGreat
namespace Go.Proofs.YtganlmloonielaaGreat
structure RepP (xs:List Pst) (L:Tag→List Int):Prop where
 nd:(xs.map Pst.tag).Nodup
 el:∀ x∈xs,x.ids=L x.tag∧x.ids≠[]
 all:∀ t,L t≠[]→∃ x∈xs,x.tag=t
theorem RepP.add {xs:List Pst} {L:Tag→List Int} (h:RepP xs L) (k:Int) (t:Tag):RepP (E8 k xs t) (fun u=>L u++(if u=t then [k] else [])):=by
 rcases Is t xs 0 with ⟨h1,h2⟩ | ⟨h1,h2,x,h3,h4⟩
 ·have hn:CT t 0 xs< 0:=by omega
  have hL:L t=[]:=by
   by_cases he:L t=[]
   ·exact he
   ·obtain ⟨x,hx,hxt⟩:=h.all t he
    exact absurd hxt (h2 x hx)
  rw [KK hn]
  refine ⟨?_,fun x hx=>?_,fun u hu=>?_⟩
  ·rw [List.map_append]
   refine List.nodup_append.2 ⟨h.nd,by simp,fun a ha b hb=>?_⟩
   simp at hb
   subst hb
   obtain ⟨x,hx,rfl⟩:=List.mem_map.1 ha
   exact h2 x hx
  ·rcases List.mem_append.1 hx with hx | hx
   ·have:=h.el x hx
    have hne:=h2 x hx
    rw [if_neg hne,List.append_nil]
    exact this
   ·simp at hx
    subst hx
    simp [hL]
  ·by_cases hut:u=t
   ·exact ⟨⟨t,[k]⟩,by simp,hut.symm⟩
   ·rw [if_neg hut,List.append_nil] at hu
    obtain ⟨x,hx,hxu⟩:=h.all u hu
    exact ⟨x,by simp [hx],hxu⟩
 ·have hn:¬ CT t 0 xs< 0:=by omega
  rw [Nat.sub_zero] at h3
  rw [KL hn h3]
  generalize (CT t 0 xs).toNat=i at h3
  obtain ⟨hil,hie⟩:=List.getElem?_eq_some_iff.1 h3
  have hmap:(xs.set i ⟨x.tag,x.ids++[k]⟩).map Pst.tag=xs.map Pst.tag:=by
   rw [List.map_set]
   have h5:(xs.map Pst.tag)[i]'(by simpa using hil)=x.tag:=by simp [hie]
   have h6:=List.set_getElem_self (show i< (xs.map Pst.tag).length by simpa using hil)
   rw [h5] at h6
   exact h6
  refine ⟨by rw [hmap]; exact h.nd,fun y hy=>?_,fun u hu=>?_⟩
  ·obtain ⟨j,hj,hjy⟩:=List.mem_iff_getElem.1 hy
   rw [List.getElem_set] at hjy
   have hj2:j< xs.length:=by simpa using hj
   split at hjy
   ·subst hjy
    have:=h.el x (AQ h3)
    simp only
    rw [if_pos h4,this.1]
    exact ⟨rfl,by simp⟩
   ·rename_i hij
    have hym:y∈xs:=hjy▸List.getElem_mem hj2
    have hne:¬ y.tag=t:=fun e=>hij (by
     have h5:(xs.map Pst.tag)[i]'(by simpa using hil)=(xs.map Pst.tag)[j]'(by simpa using hj2):=by simp [hie,hjy,h4,e]
     exact (List.getElem_inj (h₀:=by simpa using hil) (h₁:=by simpa using hj2) h.nd).1 h5)
    rw [if_neg hne,List.append_nil]
    exact h.el y hym
  ·have key:∃ y∈xs,y.tag=u:=by
    by_cases hut:u=t
    ·exact ⟨x,AQ h3,h4.trans hut.symm⟩
    ·rw [if_neg hut,List.append_nil] at hu
     exact h.all u hu
   obtain ⟨y,hy,hyu⟩:=key
   have hm:u∈(xs.set i ⟨x.tag,x.ids++[k]⟩).map Pst.tag:=by rw [hmap]; exact List.mem_map.2 ⟨y,hy,hyu⟩
   obtain ⟨z,hz,hzu⟩:=List.mem_map.1 hm
   exact ⟨z,hz,hzu⟩
theorem RepP.congr {xs:List Pst} {L L':Tag→List Int} (h:RepP xs L) (e:∀ t,L t=L' t):RepP xs L':=by
 have:L=L':=funext e
 rw [← this]; exact h
theorem RepP.name (k:Int):∀ (n:List Tag) (xs:List Pst) (L:Tag→List Int),n.Nodup→RepP xs L→RepP (n.foldl (E8 k) xs) (fun u=>L u++(if has n u then [k] else [])):=by
 intro n
 induction n with
 | nil=>intro xs L _ h; exact h.congr (fun t=>by simp [has])
 | cons t ts ih =>
   intro xs L hn h
   rw [List.nodup_cons] at hn
   refine (ih _ _ hn.2 (h.add k t)).congr (fun u=>?_)
   rw [List.append_assoc]
   congr 1
   by_cases hu:u=t
   ·subst hu
    have:has ts u=false:=by
     unfold has
     rw [List.any_eq_false]
     intro y hy e
     exact hn.1 (by rw [← eq_of_beq e]; exact hy)
    rw [this]
    simp [has]
   ·have:(t==u)=false:=by rw [beq_eq_false_iff_ne]; exact fun e=>hu e.symm
    simp only [if_neg hu,List.nil_append,has,List.any_cons,this,Bool.false_or]
    rfl
theorem RepP.bld:∀ (ns:List (List Tag)) (i:Nat) (xs:List Pst) (L:Tag→List Int),(∀ n∈ns,n.Nodup)→RepP xs L→RepP (FZ i xs ns) (fun u=>L u++FC u i ns):=by
 intro ns
 induction ns with
 | nil=>intro i xs L _ h; exact h.congr (fun t=>by simp [FC])
 | cons n ns ih =>
   intro i xs L hn h
   refine (ih (i+1) _ _ (fun m hm=>hn m (by simp [hm])) (RepP.name _ n xs L (hn n (by simp)) h)).congr (fun u=>?_)
   rw [List.append_assoc,FC]
theorem RepP.UY {names:List (List Tag)} (h:NmI names):RepP (FZ 0 [] names) (ids names) :=
 (RepP.bld names 0 [] (fun _=>[]) (fun n hn=>(Fy (h.ok n hn)).1) ⟨by simp,by simp,by simp⟩).congr (fun u=>by unfold ids; simp)
theorem Nt {names:List (List Tag)} {t:Tag} (h:ids names t≠[]):∃ n∈names,t∈n:=by
 unfold ids at h
 have:∀ (ns:List (List Tag)) (i:Nat),FC t i ns≠[]→∃ n∈ns,t∈n:=by
  intro ns
  induction ns with
  | nil=>intro i h; simp [FC] at h
  | cons n ns ih =>
    intro i h
    rw [FC] at h
    by_cases hb:has n t=true
    ·refine ⟨n,by simp,?_⟩
     unfold has at hb
     rw [List.any_eq_true] at hb
     obtain ⟨y,hy,e⟩:=hb
     rw [← eq_of_beq e]; exact hy
    ·rw [if_neg hb,List.nil_append] at h
     obtain ⟨m,hm,ht⟩:=ih (i+1) h
     exact ⟨m,by simp [hm],ht⟩
 exact this names 0 h
theorem Gx {α:Type} [DecidableEq α]:∀ (l U:List α),l.Nodup→(∀ x∈l,x∈U)→l.length≤U.length:=by
 intro l
 induction l with
 | nil=>intro U _ _; simp
 | cons a l ih =>
   intro U hn hU
   rw [List.nodup_cons] at hn
   have ha:=hU a (by simp)
   have:=ih (U.erase a) hn.2 (fun x hx=>(List.mem_erase_of_ne (fun e:x=a=>hn.1 (by rw [← e]; exact hx))).2 (hU x (by simp [hx])))
   rw [List.length_erase_of_mem ha] at this
   have:=List.length_pos_of_mem ha
   simp only [List.length_cons]; omega
def KN:List Tag:=[⟨[97],[112]⟩,⟨[97],[113]⟩,⟨[97],[122]⟩,⟨[98],[112]⟩,⟨[98],[113]⟩,⟨[98],[122]⟩,⟨[99],[112]⟩,⟨[99],[113]⟩,⟨[99],[122]⟩]
theorem Iv {t:Tag} (h:Bg t=true) (hd:G2 t):t∈KN:=by
 obtain ⟨k,v⟩:=t
 obtain ⟨h1,h2⟩:=hd
 simp only [Bg,AR] at h
 simp only [List.mem_cons,List.not_mem_nil,or_false] at h1 h2
 have hv:=Dy h.2
 have h3:v=[112]∨v=[113]∨v=[122]:=by
  rcases h2 with rfl | rfl | rfl | rfl | rfl | rfl
  ·exact .inl rfl
  ·exact .inr (.inl rfl)
  ·exact .inr (.inr rfl)
  ·simp at hv
  ·have:=h.2; simp [J2,inR] at this
  ·simp at hv
 rcases h1 with rfl | rfl | rfl <;> rcases h3 with rfl | rfl | rfl <;> simp [KN]
theorem Q0 {names:List (List Tag)} (h:NmI names) (h2:NsD names):(FZ 0 [] names).length≤12:=by
 have hr:=RepP.UY h
 have:=Gx ((FZ 0 [] names).map Pst.tag) KN hr.nd (fun t ht=>by
  obtain ⟨x,hx,rfl⟩:=List.mem_map.1 ht
  have g:=hr.el x hx
  obtain ⟨n,hn,ht⟩:=Nt (by rw [← g.1]; exact g.2:ids names x.tag≠[])
  have ho:=h.ok n hn
  simp only [BS,AR] at ho
  exact Iv (EL n none ho.1 _ ht) ((h2 n hn).2 _ ht))
 rw [List.length_map] at this
 have h9:KN.length=9:=rfl
 omega
theorem Nu {α:Type} {R:α→α→Prop} (hirr:∀ a,¬ R a a) (htr:∀ a b c,R a b→R b c→R a c):∀ (xs ys:List α),xs.Pairwise R→ys.Pairwise R→(∀ a,a∈xs↔a∈ys)→xs=ys:=by
 intro xs
 induction xs with
 | nil =>
   intro ys _ _ h
   cases ys with
   | nil=>rfl
   | cons y ys=>exact absurd ((h y).2 (by simp)) (by simp)
 | cons x xs ih =>
   intro ys hx hy h
   cases ys with
   | nil=>exact absurd ((h x).1 (by simp)) (by simp)
   | cons y ys =>
     rw [List.pairwise_cons] at hx hy
     have hxy:x=y:=by
      have h1:=(h x).1 (by simp)
      have h2:=(h y).2 (by simp)
      rcases List.mem_cons.1 h1 with h1 | h1
      ·exact h1
      ·rcases List.mem_cons.1 h2 with h2 | h2
       ·exact h2.symm
       ·exact absurd (htr _ _ _ (hy.1 x h1) (hx.1 y h2)) (hirr y)
     subst hxy
     congr 1
     refine ih ys hx.2 hy.2 (fun a=>⟨fun ha=>?_,fun ha=>?_⟩)
     ·rcases List.mem_cons.1 ((h a).1 (by simp [ha])) with rfl | h1
      ·exact absurd (hx.1 _ ha) (hirr _)
      ·exact h1
     ·rcases List.mem_cons.1 ((h a).2 (by simp [ha])) with rfl | h1
      ·exact absurd (hy.1 _ ha) (hirr _)
      ·exact h1
theorem Q1 {names:List (List Tag)} (h:NmI names) (_h2:NsD names) {xs zs:List Pst} (hp:zs.Perm xs) (hs:zs.Pairwise Le) (he:xs=FZ 0 [] names):(⟨names,zs⟩:Idx)=idxOf names:=by
 have hr:=RepP.UY h
 rw [← he] at hr
 unfold idxOf
 congr 1
 have hnd:(zs.map Pst.tag).Nodup:=(hp.map Pst.tag).nodup_iff.2 hr.nd
 have hz:zs.Pairwise (fun a b=>DF a.tag b.tag=true):=by
  rw [List.pairwise_iff_getElem] at hs ⊢
  intro i j hi hj hij
  have h1:=hs i j hi hj hij
  unfold Le at h1
  rw [L1] at h1
  cases h3:DF zs[i].tag zs[j].tag with
  | true=>rfl
  | false =>
    have e:=LI h3 (by simpa using h1)
    have h5:(zs.map Pst.tag)[i]'(by simpa using hi)=(zs.map Pst.tag)[j]'(by simpa using hj):=by simpa using e
    have:=(List.getElem_inj (h₀:=by simpa using hi) (h₁:=by simpa using hj) hnd).1 h5
    omega
 refine Nu (R:=fun (a b:Pst)=>DF a.tag b.tag=true) (fun a ha=>by rw [LH] at ha; cases ha) (fun a b c=>Ga) zs (Ci names) hz (Hx names) (fun p=>⟨fun hpz=>?_,fun hpp=>?_⟩)
 ·have g:=hr.el p (hp.mem_iff.1 hpz)
  obtain ⟨n,hn,ht⟩:=Nt (by rw [← g.1]; exact g.2:ids names p.tag≠[])
  have:=Qn (names:=names) ((Fy (h.ok n hn)).2 _ ht) (by rw [← g.1]; exact List.length_pos_iff.2 g.2)
  rw [← g.1] at this
  exact this
 ·obtain ⟨g1,g2,_⟩:=EM hpp
  obtain ⟨x,hx,hxt⟩:=hr.all p.tag (by rw [← g1]; exact List.length_pos_iff.1 g2)
  have g:=hr.el x hx
  have:x=p:=(Ey x p).2 ⟨hxt,by rw [g.1,hxt,g1]⟩
  exact this▸hp.mem_iff.2 hx
end Go.Proofs.YtganlmloonielaaGreat
namespace Go.Proofs.YtganlmloonielaaGreat
set_option maxRecDepth 100000
set_option maxHeartbeats 4000000
theorem GD (names:List (List Tag)) {w:World} {F:Nat→Prop} {a1:Option Addr} {n1 c1:Nat} (h1:RepS w F a1 n1 c1 names) (p0:names.length≤7) (p1:∀ n∈names,n.length≤5) (p2:(FZ 0 [] names).length≤12):Calls Tryz.prog 106 [.slice a1 n1 c1].toArray w (As fun rv w'=>(∃ (y:Idx),VS (ge w.heap.size) w' (y:Idx) rv∧(y.names=names∧(NmI names→NsD names→y=idxOf names)))∧Ext w w'):=by
 refine goT Tryz.func106 ?_
 obtain ⟨rfl,dw,h1⟩:=h1.tp
 refine .s<|.g<|.np 30 [.slice none 0 0,.slice none 0 0] fun O cE bo bq ax cF=>?_
 have cG:=Ad bo (Nat.le_refl _)
 replace h1:=(sn [] bq bo).g1 h1
 have ai:=bq
 refine .d<|.s<|.g<|.r 1<|.cl (Aj names h1.ta AB (fun n hn=>by have:=p1 n hn; omega) (w:=cE) (F:=all)) ?_
 rintro dT aa ⟨⟨bn,bK,bL,rfl,ay,bh⟩,bQ⟩
 have bR:=al1 ax.lt
 have cH:Gb w.heap.size cE.heap.size:=ai.size
 have dx:=Ab bh ax.lt
 have cI:=Bd bh ai.size
 replace ⟨h1,ax,ai⟩:=(sz [O] bQ bh).g3 h1 ax ai
 replace ay:=Own.take (s0:=w.heap.size) (M:=[O]) ay bR cH
 have dy:=ay.len; have dz:=ay.max
 have am:=ay.sl cI
 replace h1:=(sd aa [bn,O] bn).g1 h1
 have bY:w.heap.size≤aa.heap.size:=ai.size
 replace am:RepS aa (nin (GN w.heap.size aa.heap.size O) [O]) _ _ _ _:=am.WB.CJ (fun b _ h=>⟨h,by simp; exact h.2.2⟩)
 have h1c:=h1.Va; have hEc:=ai; have hb2c:=ax
 refine .ns 0 149 [] fun aD dq br bt cJ cK=>?_
 have cL:Cov nil aa aD:=Bc br (Nat.le_refl _)
 replace am:=(sn [O] bt br).g1 am
 have aj:=bt
 have ak:Own (α:=Pst) dq aD 149 (nin (ge w.heap.size) [aD,O]) 0 0 []:=Own.Ag cJ
 refine .r 1<|.np 30 [.slice none 0 0,.slice none 0 0] fun W dU bi bS cM cN=>?_
 have cO:=AS bi ak.lt
 have cP:=aj.cn bi
 replace ⟨am,ak,aj⟩:=(sn [aD,O] bS bi).g3 am ak aj
 refine .sc [vS bn bK bL,vS aD 0 0] cM fun dV bT cQ cR=>?_
 replace ⟨am,ak,aj⟩:=(so [W,aD,O] bT).g3 am ak aj
 refine .d<|.s<|.s<|.g<|.r 3<|.d<|.b 0 ?_
 have hix:=IX.WC (tX:=30) (tP:=149) (tI:=3) (s0:=w.heap.size) (s1:=aa.heap.size) bY (GN.lt (b2:=O)) am.w1 cQ ak cO (Cov.ge cP) (Cov.ge cL)
 have hE:=aj
 refine T.loop (X:=Nat × Nat × Nat × List RP × List Pst × List Nat) (aD,0,0,[],[],[]) (fun (r,c,k,ys,xs,rs)=>[(2,.pointer (some ⟨O,0,none⟩)),(3,.pointer (some ⟨W,0,none⟩)),(13,.slice a1 names.length c1),(14,vI (names.length:Int)),(15,vI (k:Int))]) (fun (r,c,k,ys,xs,rs) w_=>Ext aa w_∧IX 30 149 3 w.heap.size aa.heap.size (GN w.heap.size aa.heap.size O) w_ W r c (some ⟨bn,0,none⟩) bK bL names ys xs rs∧k≤names.length∧xs.length≤5 * k∧(∀ x∈xs,x.ids.length≤5 * k)∧FZ k xs (names.drop k)=FZ 0 [] names) (fun (r,c,k,ys,xs,rs)=>names.length - k) AA ⟨AA,AA,AA,AA,AA,trivial⟩ ⟨hE,hix,by omega,by simp,by simp,rfl⟩ ?_
 rintro ⟨r,c,k,ys,xs,rs⟩ e1_ dW ⟨hE,hix,hk,hxl,hil,hbl⟩ bM
 have hnm:=h1c.ext hE
 refine .s<|.g<|.bp ((k:Int)< (names.length:Int)) (fun cS=>?_) (fun cS=>?_)
 ·refine .d<|.s<|.ct<|.sk<|.s<|.b 1<|.s<|.g<|.r 1 ?_
  have cT:k< names.length:=AB
  refine .ix k 1 hnm cT ?_
  obtain ⟨ag,az⟩:∃ y,names[k]? = some y:=⟨_,AP AB⟩
  have dA:=AX az; have dm:=AQ az
  obtain ⟨_,⟨dr,dX,dt,rfl,bZ⟩,cU⟩:=hnm.elem k ag az
  have cV:=bZ.len
  subst cV
  have dB:=bZ.max
  refine .lh 0 cU<|.r 2<|.d<|.s<|.g<|.r 3<|.d<|.b 2 ?_
  have hEA:=hE; have dY:=p1 ag (AQ az); have hnl:=p0
  refine T.loop (X:=Nat × Nat × Nat × List RP × List Pst × List Nat) (r,c,0,ys,xs,rs) (fun (rq,cq,j,J,E,ac)=>[(2,.pointer (some ⟨O,0,none⟩)),(3,.pointer (some ⟨W,0,none⟩)),(4,vI (k:Int)),(13,.slice a1 names.length c1),(14,vI (names.length:Int)),(15,vI (k:Int)),(20,.slice dr ag.length dt),(21,vI (ag.length:Int)),(22,vI (j:Int))]) (fun (rq,cq,j,J,E,ac) w_=>Ext aa w_∧IX 30 149 3 w.heap.size aa.heap.size (GN w.heap.size aa.heap.size O) w_ W rq cq (some ⟨bn,0,none⟩) bK bL names J E ac∧j≤ag.length∧E.length≤5 * k+j∧(∀ x∈E,x.ids.length≤5 * k+j)∧(ag.drop j).foldl (E8 ((k:Int)+1)) E=ag.foldl (E8 ((k:Int)+1)) xs) (fun (rq,cq,j,J,E,ac)=>ag.length - j) AA ⟨AA,AA,AA,AA,AA,AA,AA,AA,AA,trivial⟩ ⟨hE,hix,by omega,by omega,fun x hx=>by have:=hil x hx; omega,rfl⟩ ?_
  rintro ⟨rq,cq,j,J,E,ac⟩ e2_ dZ ⟨hE,hix,hj,bU,ah,hfl⟩ bj
  have cW:=bZ.via hEA hE
  refine .s<|.g<|.bp ((j:Int)< (ag.length:Int)) (fun cX=>?_) (fun cX=>.d<|.s<|.cf<|.x 2 rfl<|.ib 1<|.g<|.it ((k:Int)+1)<|.r 1<|.d<|bM (rq,cq,k+1,J,E,ac) _ _ ⟨AA,AA,AA,AA,AA,trivial⟩ ⟨hE,hix,by omega,by omega,fun x hx=>by have:=ah x hx; omega,S0 hbl (AX az) (FK hfl AB)⟩ (by (simp only []; omega)))
  refine .d<|.s<|.ct<|.sk<|.s<|.b 3<|.s<|.g ?_
  have cY:j< ag.length:=AB
  refine .ix j 2 cW cY ?_
  obtain ⟨C,aA⟩:∃ y,ag[j]? = some y:=⟨_,AP AB⟩
  have dC:=AX aA; have dp:=AQ aA
  obtain ⟨_,rfl,cZ⟩:=cW.elem j C aA
  refine .lg 0 cZ<|.np 120 [.string (bs []),.string (bs [])] fun c7 d0 bu bv c8 b0=>?_
  have b6:∀ q_∈W::rq::ac,Nb c7 q_:=fun q_ hq_=>AS bu (hix.lt q_ hq_)
  have bw:aa.heap.size≤c7:=Nat.le_trans hE.size (Nat.le_of_eq (Eq.symm bu))
  replace hix:=hix.ext bv
  replace hE:=hE.trans bv
  refine .sc [vT C.key,vT C.val] c8 fun c9 aE ao b7=>?_
  replace hix:=hix.one aE b6 bw
  replace hE:=Chg.Ew hE aE ⟨.inr bw⟩
  refine .d<|.s<|.g<|.r 1<|.lb hix.box<|.r 1<|.cl (H4 E C (hix.rep.CJ (F':=all) (fun _ _ _=>trivial)) ao (w:=c9) (F:=all)) ?_
  rintro dD bz ⟨rfl,aq⟩
  replace ao:=ao.ext aq
  replace hix:=hix.ext aq
  replace hE:=hE.trans aq
  refine .r 1<|.d<|.s<|.s<|.g<|.r 1<|.bp (CT C 0 E< 0) (fun b8=>?_) (fun b8=>?_)
  ·refine .d<|.ct<|.s<|.g<|.r 1<|.lb hix.box<|.r 2<|.d<|.g<|.r 1<|.lb hix.box<|.ln ao<|.r 1<|.ns 1 149 [vT C.key,vT C.val,.slice none 0 0] fun al dE aF aG bA b9=>?_
   have bB:∀ q_∈W::rq::ac,Nb al q_:=fun q_ hq_=>AS aF (hix.lt q_ hq_)
   have cd:aa.heap.size≤al:=Nat.le_trans hE.size (Nat.le_of_eq (Eq.symm aF))
   replace hix:=hix.ext aG
   replace hE:=hE.trans aG
   have bV:=hix.lx; have da:=hix.lr; have hvl_:=bA.lt; have hge_r:=hix.new rq AE; have ce:=hix.new W AD; have hEs:=hE.size
   refine RG.Ap (T:=28) (ty:=28) (y:=(⟨C.key,C.val,none,0,0⟩:RP)) hix.own bA AA AA rfl ⟨trivial,bB rq AE⟩ AB fun ab bW dF cg bN aH=>?_
   replace hE:=Chg.Ew hE aH ⟨.inr hge_r⟩
   refine .r 1<|.ss 1 (vS ab (J.length+1) bW) (hix.box.chg aH (Nb.one hix.ne)) fun bC aI ci cj=>?_
   replace hix:=hix.push (t:=⟨C.key,C.val⟩) (vb:=al) hEs aH cg bN bB cd hvl_ aI ci
   replace hE:=Chg.Ew hE aI ⟨.inr ce⟩
   refine .d ?_
   obtain ⟨xi,hxi⟩:∃ q,(E++[(⟨⟨C.key,C.val⟩,[]⟩:Pst)])[J.length]? = some q:=⟨_,AP (by (simp; omega))⟩
   obtain ⟨yi,hyi⟩:∃ q,(J++[(⟨C.key,C.val,none,0,0⟩:RP)])[J.length]? = some q:=⟨_,AP (by (simp; done))⟩
   obtain ⟨ri,hri⟩:∃ q,(ac++[al])[J.length]? = some q:=⟨_,AP (by (simp; omega))⟩
   have hiy:J.length< (J++[(⟨C.key,C.val,none,0,0⟩:RP)]).length:=(List.getElem?_eq_some_iff.1 hyi).1
   have hl3_:W< bC.heap.size:=hix.lt _ AD; have hlr_:ab< bC.heap.size:=hix.lt _ AE; have hn3_:=hix.ne3 hri; have hnr_:=hix.ner hri
   refine .gd (mtb [ri] bC.heap.size) 13 fun db aJ=>?_
   replace hix:=hix.ext aJ
   replace hE:=hE.trans aJ
   refine .r [0]<|.lb 1 hix.box (Ax (all_cons hn3_ all_nil) hl3_)<|.r [2,3]<|.lb 4 hix.box (Ax (all_cons hn3_ all_nil) hl3_)<|.r [5] ?_
   have ck:J.length< (J++[(⟨C.key,C.val,none,0,0⟩:RP)]).length:=AB
   refine GA.idx (i:=6) (b:=ab) (o:=0) J.length (len:=(J++[(⟨C.key,C.val,none,0,0⟩:RP)]).length) (z:=(J.length:Int)) (sz:=3) AA AB ck rfl<|.r [7] ?_
   obtain ⟨_,rfl,aK⟩:=hix.own.elem J.length yi hyi
   replace aK:Has db ⟨ab,0+J.length * Rep.sz RP,none⟩ [vT yi.key,vT yi.val,.slice yi.a yi.n yi.c]:=by rw [Nat.zero_add]; exact aK
   refine .lh 8 2 aK (Ax (all_cons hnr_ all_nil) hlr_)<|.r [9]<|GA.int (i:=10) ((k:Int)+1) AA AB<|.go 11<|.ns 1 3 [vI ((k:Int)+1)] fun dG aL=>?_
   replace hix:=hix.ext aL
   replace hE:=hE.trans aL
   intro bD dH aM aN aO cm
   have co:∀ q_∈W::ab::(ac++[al]),Nb bD q_:=fun q_ hq_=>AS aM (hix.lt q_ hq_)
   have du:aa.heap.size≤bD:=Nat.le_trans hE.size (Nat.le_of_eq (Eq.symm aM))
   replace hix:=hix.ext aN
   replace hE:=hE.trans aN
   refine .go 12<|GE.append (T:=24) (ty:=24) (args:=[.slice yi.a yi.n yi.c,vS bD 1 1]) AA fun dI ar=>?_
   replace aO:=aO.ext ar
   replace hix:=hix.ext ar
   replace hE:=hE.trans ar
   have hyn:=(hix.el J.length xi yi ri hxi hyi hri).2.2.n; have hyl:xi.ids.length≤1000:=by have hm:=AQ hxi; (rcases List.mem_append.1 hm with hm | hm; (have:=ah _ hm; omega); (simp at hm; subst hm; simp))
   have bE:=hE.size; have hge_ri:=hix.new ri (IX.mi hri)
   obtain ⟨aB,bk,dJ,bF,aP,bO,ae⟩:=Kt.app (P:=Tryz.prog) (T:=24) (ty:=24) (hix.el J.length xi yi ri hxi hyi hri).2.2 AA aO (co ri (IX.mi hri)) AB
   refine ⟨_,_,bF,Chg.toS ae (.inl AD),?_⟩
   replace hE:=Chg.Ew hE ae ⟨.inr hge_ri⟩
   refine .d fun de au=>?_
   replace ae:=Chg.trans ae (Ext.chg au)
   replace aP:=aP.ext au
   replace hE:=hE.trans au
   have cp:J.length< (J++[(⟨C.key,C.val,none,0,0⟩:RP)]).length:=AB
   refine RG.idx (b:=ab) (o:=0) J.length (len:=(J++[(⟨C.key,C.val,none,0,0⟩:RP)]).length) (i:=(J.length:Int)) (sz:=3) AA AB cp rfl<|.r 1 ?_
   have bG:=Qx Jr hix.own ae (Nb.one (hix.ner hri))
   obtain ⟨_,rfl,aQ⟩:=bG.elem J.length yi hyi
   replace aQ:Has de ⟨ab,0+J.length * Rep.sz RP,none⟩ [vT yi.key,vT yi.val,.slice yi.a yi.n yi.c]:=by rw [Nat.zero_add]; exact aQ
   refine RG.Ds (t':=24) (i:=J.length) (k:=2) (v:=vS aB (yi.n+1) bk) (cs:=[vT yi.key,vT yi.val,.slice yi.a yi.n yi.c]) (⟨yi.key,yi.val,some ⟨aB,0,none⟩,yi.n+1,bk⟩:RP) bG hyi aQ AA AA AA rfl fun dK cr aR cu=>?_
   have hge_r2:=hix.new ab AE
   replace hix:=hix.upd (i:=J.length) (z:=(k:Int)+1) bE hxi hyi hri ae aP bO aR (y':=(⟨yi.key,yi.val,some ⟨aB,0,none⟩,yi.n+1,bk⟩:RP)) rfl cr
   replace hE:=Chg.Ew hE aR ⟨.inr hge_r2⟩
   refine .d<|.ib 3<|.g<|.it ((j:Int)+1)<|.r 1<|.d ?_
   have hxN:((E++[(⟨⟨C.key,C.val⟩,[]⟩:Pst)]).set J.length ⟨xi.tag,xi.ids++[(k:Int)+1]⟩)=E8 ((k:Int)+1) E C:=(UW hxi (by rw [← bV])).trans (KK ‹_›).symm
   have hbd:=Mq ((k:Int)+1) E C (5 * k+j) bU ah; rw [← hxN] at hbd
   have hfs:=E6 hfl (AX aA); rw [← hxN] at hfs
   exact bj (ab,bW,j+1,((J++[(⟨C.key,C.val,none,0,0⟩:RP)]).set J.length (⟨yi.key,yi.val,some ⟨aB,0,none⟩,yi.n+1,bk⟩:RP)),((E++[(⟨⟨C.key,C.val⟩,[]⟩:Pst)]).set J.length ⟨xi.tag,xi.ids++[(k:Int)+1]⟩),((ac++[al]).set J.length aB)) _ _ ⟨AA,AA,AA,AA,AA,AA,AA,AA,AA,trivial⟩ ⟨hE,hix,by omega,by have:=hbd.1; omega,fun x hx=>by have:=hbd.2 x hx; omega,hfs⟩ (by (simp only []; omega))
  refine .d<|.cf<|.sk ?_
  have bV:=hix.lx; have da:=hix.lr; have hib:=Sz (t:=C) (xs:=E) ‹_›
  obtain ⟨xi,hxi⟩:∃ q,E[(CT C 0 E).toNat]? = some q:=⟨_,AP AB⟩
  obtain ⟨yi,hyi⟩:∃ q,J[(CT C 0 E).toNat]? = some q:=⟨_,AP AB⟩
  obtain ⟨ri,hri⟩:∃ q,ac[(CT C 0 E).toNat]? = some q:=⟨_,AP AB⟩
  have hiy:(CT C 0 E).toNat< J.length:=(List.getElem?_eq_some_iff.1 hyi).1
  have hl3_:W< bz.heap.size:=hix.lt _ AD; have hlr_:rq< bz.heap.size:=hix.lt _ AE; have hn3_:=hix.ne3 hri; have hnr_:=hix.ner hri
  refine .gd (mtb [ri] bz.heap.size) 13 fun df aS=>?_
  replace hix:=hix.ext aS
  replace hE:=hE.trans aS
  refine .r [0]<|.lb 1 hix.box (Ax (all_cons hn3_ all_nil) hl3_)<|.r [2,3]<|.lb 4 hix.box (Ax (all_cons hn3_ all_nil) hl3_)<|.r [5] ?_
  have cv:(CT C 0 E).toNat< J.length:=AB
  refine GA.idx (i:=6) (b:=rq) (o:=0) ((CT C 0 E).toNat) (len:=J.length) (z:=CT C 0 E) (sz:=3) AA AB cv rfl<|.r [7] ?_
  obtain ⟨_,rfl,aT⟩:=hix.own.elem ((CT C 0 E).toNat) yi hyi
  replace aT:Has df ⟨rq,0+((CT C 0 E).toNat) * Rep.sz RP,none⟩ [vT yi.key,vT yi.val,.slice yi.a yi.n yi.c]:=by rw [Nat.zero_add]; exact aT
  refine .lh 8 2 aT (Ax (all_cons hnr_ all_nil) hlr_)<|.r [9]<|GA.int (i:=10) ((k:Int)+1) AA AB<|.go 11<|.ns 1 3 [vI ((k:Int)+1)] fun dL aU=>?_
  replace hix:=hix.ext aU
  replace hE:=hE.trans aU
  intro bH dM aV aW aX cw
  have cx:∀ q_∈W::rq::ac,Nb bH q_:=fun q_ hq_=>AS aV (hix.lt q_ hq_)
  have dv:aa.heap.size≤bH:=Nat.le_trans hE.size (Nat.le_of_eq (Eq.symm aV))
  replace hix:=hix.ext aW
  replace hE:=hE.trans aW
  refine .go 12<|GE.append (T:=24) (ty:=24) (args:=[.slice yi.a yi.n yi.c,vS bH 1 1]) AA fun dN av=>?_
  replace aX:=aX.ext av
  replace hix:=hix.ext av
  replace hE:=hE.trans av
  have hyn:=(hix.el (CT C 0 E).toNat xi yi ri hxi hyi hri).2.2.n; have hyl:xi.ids.length≤1000:=by have hm:=AQ hxi; (have:=ah _ hm; omega)
  have bE:=hE.size; have hge_ri:=hix.new ri (IX.mi hri)
  obtain ⟨aC,bm,dO,bI,aY,bP,af⟩:=Kt.app (P:=Tryz.prog) (T:=24) (ty:=24) (hix.el (CT C 0 E).toNat xi yi ri hxi hyi hri).2.2 AA aX (cx ri (IX.mi hri)) AB
  refine ⟨_,_,bI,Chg.toS af (.inl AD),?_⟩
  replace hE:=Chg.Ew hE af ⟨.inr hge_ri⟩
  refine .d fun dg aw=>?_
  replace af:=Chg.trans af (Ext.chg aw)
  replace aY:=aY.ext aw
  replace hE:=hE.trans aw
  have cy:(CT C 0 E).toNat< J.length:=AB
  refine RG.idx (b:=rq) (o:=0) ((CT C 0 E).toNat) (len:=J.length) (i:=CT C 0 E) (sz:=3) AA AB cy rfl<|.r 1 ?_
  have bJ:=Qx Jr hix.own af (Nb.one (hix.ner hri))
  obtain ⟨_,rfl,aZ⟩:=bJ.elem ((CT C 0 E).toNat) yi hyi
  replace aZ:Has dg ⟨rq,0+((CT C 0 E).toNat) * Rep.sz RP,none⟩ [vT yi.key,vT yi.val,.slice yi.a yi.n yi.c]:=by rw [Nat.zero_add]; exact aZ
  refine RG.Ds (t':=24) (i:=((CT C 0 E).toNat)) (k:=2) (v:=vS aC (yi.n+1) bm) (cs:=[vT yi.key,vT yi.val,.slice yi.a yi.n yi.c]) (⟨yi.key,yi.val,some ⟨aC,0,none⟩,yi.n+1,bm⟩:RP) bJ hyi aZ AA AA AA rfl fun dP cz ba cA=>?_
  have hge_r2:=hix.new rq AE
  replace hix:=hix.upd (i:=(CT C 0 E).toNat) (z:=(k:Int)+1) bE hxi hyi hri af aY bP ba (y':=(⟨yi.key,yi.val,some ⟨aC,0,none⟩,yi.n+1,bm⟩:RP)) rfl cz
  replace hE:=Chg.Ew hE ba ⟨.inr hge_r2⟩
  refine .d<|.ib 3<|.g<|.it ((j:Int)+1)<|.r 1<|.d ?_
  have hxN:(E.set ((CT C 0 E).toNat) ⟨xi.tag,xi.ids++[(k:Int)+1]⟩)=E8 ((k:Int)+1) E C:=(KL ‹_› hxi).symm
  have hbd:=Mq ((k:Int)+1) E C (5 * k+j) bU ah; rw [← hxN] at hbd
  have hfs:=E6 hfl (AX aA); rw [← hxN] at hfs
  exact bj (rq,cq,j+1,(J.set ((CT C 0 E).toNat) (⟨yi.key,yi.val,some ⟨aC,0,none⟩,yi.n+1,bm⟩:RP)),(E.set ((CT C 0 E).toNat) ⟨xi.tag,xi.ids++[(k:Int)+1]⟩),(ac.set ((CT C 0 E).toNat) aC)) _ _ ⟨AA,AA,AA,AA,AA,AA,AA,AA,AA,trivial⟩ ⟨hE,hix,by omega,by have:=hbd.1; omega,fun x hx=>by have:=hbd.2 x hx; omega,hfs⟩ (by (simp only []; omega))
 refine .d<|.s<|.cf<|.x 0 rfl<|.s<|.g<|.r 1 ?_
 have hEw:=hEc.trans hE; have hb2n:=hb2c.ext hE; have hb2l:=hb2c.lt; have hoP:=hix.Vb hb2l; have hNn:=hix.UU; have hb3n:=hix.box; have hn3r:=hix.ne
 have dQ:Nb W O:=Ab (hix.new _ AD) hb2l; have dR:Nb r O:=Ab (hix.new _ AE) hb2l
 have d3:Gb w.heap.size W:=Nat.le_trans bY (hix.new _ AD); have hgr:Gb w.heap.size r:=Nat.le_trans bY (hix.new _ AE)
 have hbe:=UX hbl AB
 refine .lb hb3n<|.cl (Iu hoP (by rw [hix.lx,hbe]; exact p2)) ?_
 rintro dS dh ⟨rfl,cB,hperm_,hsort_,bc,bd⟩
 replace ⟨hNn,hb3n,hb2n⟩:=(so [W,r,O] bd).g3 hNn hb3n hb2n
 replace hEw:Chg nil w dh:=Chg.Ew hEw bd ⟨.inr hgr⟩
 refine .d<|.s<|.g<|.ln hb3n<|.sc [vS bn bK bL,vS r ys.length c] hb2n fun bX bg cC cD=>?_
 replace ⟨hNn,bc,hb3n⟩:=(so [W,r,O] bg).g3 hNn bc hb3n
 replace hEw:Chg nil w bX:=Chg.Ew hEw bg ⟨.inr cG⟩
 refine .d ?_
 have dj:=bc.sl hgr
 replace hNn:=(sd bX [W,r,O] r).g1 hNn
 exact .rb Tryz.func106 Tryz.results106 cC ⟨⟨((⟨names,cB⟩:Idx):Idx),⟨_,rfl,⟨_,_,_,_,_,_,rfl,hNn.w1,dj.w1⟩⟩,(by exact ⟨rfl,fun a b=>Q1 a b hperm_ hsort_ hbe⟩)⟩,hEw⟩
theorem E9 (names:List (List Tag)) {w:World} {F:Nat→Prop} {a1:Option Addr} {n1 c1:Nat} (h1:RepS w F a1 n1 c1 names) (p0:NmI names) (p1:NsD names):Calls Tryz.prog 106 [.slice a1 n1 c1].toArray w (As fun rv w'=>VS (ge w.heap.size) w' (idxOf names:Idx) rv∧Ext w w'):=by
 refine (GD names h1 (by have:=p0.len; omega) (fun n hn=>(p1 n hn).1) (Q0 p0 p1)).mono ?_
 rintro e w' ⟨v,rfl,⟨y,hv,hy⟩,hx⟩
 exact ⟨v,rfl,by rw [← hy.2 p0 p1]; exact hv,hx⟩
end Go.Proofs.YtganlmloonielaaGreat
namespace Go.Proofs.YtganlmloonielaaGreat
theorem UZ {t:Tag} (h:Bg t=true):∃ x y,t=⟨[x],[y]⟩:=by
 obtain ⟨k,v⟩:=t
 simp only [Bg,AR] at h
 have h1:k.length=1:=Dy h.1
 have h2:v.length=1:=Dy h.2
 match k,v,h1,h2 with
 | [x],[y],_,_=>exact ⟨x,y,rfl⟩
theorem PZ:∀ (n m:List Tag) (i:Nat),(∀ t∈n,Bg t=true)→(∀ t∈m,Bg t=true)→EY i n=EY i m→n=m:=by
 intro n
 induction n with
 | nil =>
   intro m i _ hm h
   cases m with
   | nil=>rfl
   | cons t ts =>
     obtain ⟨x,y,rfl⟩:=UZ (hm t (by simp))
     simp [EY,HA] at h
 | cons t ts ih =>
   intro m i hn hm h
   obtain ⟨x,y,rfl⟩:=UZ (hn t (by simp))
   cases m with
   | nil=>simp [EY,HA] at h
   | cons u us =>
     obtain ⟨x',y',rfl⟩:=UZ (hm u (by simp))
     simp only [EY,HA,List.append_assoc] at h
     have h2:=List.append_cancel_left h
     simp only [List.cons_append,List.nil_append,List.cons.injEq,true_and] at h2
     obtain ⟨rfl,rfl,h3⟩:=h2
     rw [ih us (i+1) (fun t ht=>hn t (by simp [ht])) (fun t ht=>hm t (by simp [ht])) h3]
theorem JM {n:List Tag} (h:BS n=true):∀ t∈n,Bg t=true:=by
 simp only [BS,AR] at h
 exact EL n none h.1
theorem Ms {n m:List Tag} (hn:BS n=true) (hm:BS m=true) (h:text n=text m):n=m:=PZ n m 0 (JM hn) (JM hm) h
theorem NsD.add {names:List (List Tag)} {n:List Tag} (h:NsD names) (hn:NmD n):NsD (names++[n]):=fun m hm=>by
 rcases List.mem_append.1 hm with hm | hm
 ·exact h m hm
 ·simp at hm; rw [hm]; exact hn
theorem Pa:∀ (is:List Int) (bs:List (List Row)) (o:Option Int),Bl o is bs=true→(∀ q,o=some q→∀ i∈is,q< i)∧∀ m,Km m is=(match is.getLast? with | some l=>if l > m then l else m | none=>m)∨is=[]:=by
 intro is
 induction is with
 | nil=>intro bs o _; exact ⟨fun _ _ i hi=>(by cases hi),fun m=>.inr rfl⟩
 | cons x xs ih =>
   intro bs o h
   cases bs with
   | nil=>simp [Bl] at h
   | cons b bs =>
     simp only [Bl,AR] at h
     obtain ⟨⟨⟨⟨_,h2⟩,_⟩,_⟩,h5⟩:=h
     obtain ⟨g1,g2⟩:=ih bs (some x) h5
     refine ⟨fun q hq i hi=>?_,fun m=>.inl ?_⟩
     ·subst hq
      have hqx:q< x:=by simpa using h2
      rcases List.mem_cons.1 hi with rfl | hi
      ·exact hqx
      ·have:=g1 x rfl i hi; omega
     ·unfold Km
      rcases g2 (if x > m then x else m) with g | g
      ·rw [g]
       cases hl:xs.getLast? with
       | none =>
         have:xs=[]:=List.getLast?_eq_none_iff.1 hl
         subst this
         simp
       | some l =>
         have hlm:=g1 x rfl l (List.mem_of_getLast? hl)
         have e:(x::xs).getLast? = some l:=by rw [List.getLast?_cons,hl]; rfl
         rw [e]
         simp only
         repeat' split
         all_goals omega
      ·subst g
       simp [Km]
theorem KO {p:Prt} {n:Int} (h:Au p=true) (h0:(p.ids.length:Int)≠0):Br p n = !decide (maxOf p.ids > n):=by
 unfold Br
 rw [h,Bool.true_and]
 unfold Au at h
 simp only [AR,decide_eq_true_eq] at h
 match hi:p.ids,h.2 with
 | [],_=>rw [hi] at h0; simp at h0
 | x :: xs, hg =>
   cases hb:p.blocks with
   | nil=>rw [hb] at hg; simp [Bl] at hg
   | cons b bs =>
     rw [hb] at hg
     simp only [Bl,AR] at hg
     obtain ⟨g1,g2⟩:=Pa xs bs (some x) hg.2
     show (match (x::xs).getLast? with | some i=>decide (i≤n) | none=>false) = !decide (Km x xs > n)
     rcases g2 x with g | g
     ·rw [g]
      cases hl:xs.getLast? with
      | none =>
        have:xs=[]:=List.getLast?_eq_none_iff.1 hl
        subst this
        simp only [List.getLast?_singleton]
        rw [Bool.eq_iff_iff]; simp
      | some l =>
        have hlm:=g1 x rfl l (List.mem_of_getLast? hl)
        have e:(x::xs).getLast? = some l:=by rw [List.getLast?_cons,hl]; rfl
        rw [e]
        simp only
        simp only [show l > x from hlm,if_true]
        rw [Bool.eq_iff_iff]; simp
     ·subst g
      simp only [List.getLast?_singleton,Km]
      rw [Bool.eq_iff_iff]; simp
theorem Q2 {p:Prt} {n:Int} (h:Au p=false):Br p n=false:=by unfold Br; rw [h]; rfl
theorem Q3 {p:Prt} {n:Int} (h:(p.ids.length:Int)=0):Br p n=false:=by
 have:p.ids=[]:=List.eq_nil_of_length_eq_zero AB
 unfold Br; rw [this]; simp
theorem Q4 {p:Prt} {n:Int} (h:Au p=true) (h0:(p.ids.length:Int)≠0) (h1:maxOf p.ids > n):Br p n=false:=by rw [KO h h0]; simp [h1]
theorem Q5 {p:Prt} {n:Int} (h:Au p=true) (h0:(p.ids.length:Int)≠0) (h1:¬ maxOf p.ids > n):Br p n=true:=by rw [KO h h0]; simp [h1]
theorem Fl {p:Prt} {n:Int} (h:Br p n=true):Au p=true:=by
 unfold Br at h
 simp only [AR] at h
 exact h.1
structure StoK (s:Sto):Prop where
 sd:SD s
 part:∀ p∈s.parts,PrtI p∧Au p=true
 row:∀ m∈s.mem,Bw m.row=true
 id:∀ m∈s.mem,1≤m.id∧m.id≤s.idx.names.length
 nm2:s.mem.length≤20
theorem StoK.of {s:Sto} (h:SD s) (hk:Ak s=true):StoK s:=by
 unfold Ak at hk
 simp only [AR,decide_eq_true_eq,List.all_eq_true] at hk
 obtain ⟨⟨⟨⟨_,h2⟩,h3⟩,h4⟩,_⟩:=hk
 refine ⟨h,fun p hp=>⟨h.part p hp,Fl (h3 p hp)⟩,fun m hm=>?_,fun m hm=>?_,h2⟩
 ·have:=h4 m hm
  unfold Dz at this
  simp only [AR] at this
  exact this.2
 ·have:=h4 m hm
  unfold Dz at this
  simp only [AR] at this
  exact CN this.1
theorem StoK.Ja {s:Sto} (h:StoK s):StoI s:=⟨h.sd.idx,h.sd.nm,h.sd.np,h.sd.part,h.nm2,fun m hm=>⟨(h.id m hm).1,(h.id m hm).2,h.row m hm⟩⟩
theorem StoK.pt {s:Sto} (h:SD s) (h3:s.parts.all (fun p=>Br p s.idx.names.length)=true):∀ p∈s.parts,PrtI p∧Au p=true:=fun p hp=>⟨h.part p hp,Fl (List.all_eq_true.1 h3 p hp)⟩
theorem StoK.rw {s:Sto} (h4:s.mem.all (Dz s.idx.names.length)=true):∀ m∈s.mem,Bw m.row=true:=fun m hm=>by
 have:=List.all_eq_true.1 h4 m hm
 unfold Dz at this
 simp only [AR] at this
 exact this.2
def HF (s:Sto) (id:Int):List Row:=if Ak s=true∧inR id 1 s.idx.names.length=true then rowsOf s id else []
theorem Pb {s:Sto} {id:Int} (h:Ak s=true) (h2:inR id 1 s.idx.names.length=true):HF s id=rowsOf s id:=by unfold HF; rw [if_pos ⟨h,h2⟩]
end Go.Proofs.YtganlmloonielaaGreat
namespace Go.Proofs.YtganlmloonielaaGreat
def nmB (names:List (List Tag)):Bool:=decide (names.length≤6)&&names.all BS&&decide ((names.map text).Nodup)
theorem D2 {names:List (List Tag)}:nmB names=true↔NmI names:=by
 unfold nmB
 simp only [AR,decide_eq_true_eq,List.all_eq_true]
 exact ⟨fun h=>⟨h.1.1,h.1.2,h.2⟩,fun h=>⟨⟨h.len,h.ok⟩,h.nodup⟩⟩
theorem L2 {names:List (List Tag)} (h:¬ NmI names):nmB names=false:=by
 cases hb:nmB names with
 | false=>rfl
 | true=>exact absurd (D2.1 hb) h
structure NmG (names:List (List Tag)):Prop where
 len:names.length≤7
 nd:NsD names
 bl:(FZ 0 [] names).length≤12
theorem NmG.of {names:List (List Tag)} (h:NmI names) (h2:NsD names):NmG names:=⟨by have:=h.len; omega,h2,Q0 h h2⟩
theorem NmG.sz {names:List (List Tag)} (h:NmG names):∀ n∈names,Fg n:=fun n hn=>(h.nd n hn).sz
theorem NmG.l5 {names:List (List Tag)} (h:NmG names):∀ n∈names,n.length≤5:=fun n hn=>(h.nd n hn).1
theorem Mt {names:List (List Tag)} (h:∀ (i j:Nat) (x y:List Tag),i< j→names[i]? = some x→names[j]? = some y→text x≠text y):(names.map text).Nodup:=by
 unfold List.Nodup
 rw [List.pairwise_iff_getElem]
 intro i j hi hj hij
 rw [List.getElem_map,List.getElem_map]
 exact h i j _ _ hij (AP _) (AP _)
def Q6 (names:List (List Tag)) (k:Nat):Prop:=∀ j n,j< k→names[j]? = some n→BS n=true∧FD n 0 names=j
theorem Ua (names:List (List Tag)):Q6 names 0:=fun j _ h=>absurd h AB
theorem Pc {names:List (List Tag)} {k:Nat} {n:List Tag} (h:Q6 names k) (hn:names[k]? = some n) (h1:BS n=true) (h2:FD n 0 names+1=(k:Int)+1):Q6 names (k+1):=fun j m hj hm=>by
 by_cases e:j=k
 ·subst e
  rw [hn] at hm
  cases hm
  exact ⟨h1,by omega⟩
 ·exact h j m AB hm
theorem Om {names:List (List Tag)} {k:Nat} {n:List Tag} (hn:names[k]? = some n) (h:BS n=false∨FD n 0 names+1≠(k:Int)+1):false=nmB names:=(L2 (fun hI=>Su hI hn h)).symm
theorem Q7 {names:List (List Tag)} {k:Nat} (h:Q6 names k) (hk:names.length≤k):decide ((names.length:Int)≤6)=nmB names:=by
 unfold nmB
 have h1:names.all BS=true:=List.all_eq_true.2 (fun n hn=>by
  obtain ⟨j,hj⟩:=List.mem_iff_getElem?.1 hn
  exact (h j n (by have:=(List.getElem?_eq_some_iff.1 hj).1; omega) hj).1)
 have h2:(names.map text).Nodup:=Mt (fun i j x y hij hx hy e=>by
  have hj:=(List.getElem?_eq_some_iff.1 hy).1
  have a:=h i x AB hx
  have b:=h j y AB hy
  have:=Ms a.1 b.1 e
  subst this
  omega)
 rw [h1,decide_eq_true h2,Bool.and_true,Bool.and_true,decide_eq_decide]
 omega
def okS (names:List (List Tag)) (k:Nat):Prop:=∀ j n,j< k→names[j]? = some n→BS n=true∧∀ i m,i< j→names[i]? = some m→text n≠text m
theorem Ve (names:List (List Tag)):okS names 0:=fun j _ h=>absurd h AB
def apart (names:List (List Tag)) (n:List Tag) (k:Nat):Prop:=∀ i m,i< k→names[i]? = some m→text n≠text m
theorem S1 (names:List (List Tag)) (n:List Tag):apart names n 0:=fun j _ h=>absurd h AB
theorem Nv {names:List (List Tag)} {n m:List Tag} {k:Nat} (h:apart names n k) (hm:names[k]? = some m) (h2:(text n==text m)=false):apart names n (k+1):=fun i x hi hx=>by
 by_cases e:i=k
 ·subst e
  rw [hm] at hx
  cases hx
  exact beq_eq_false_iff_ne.1 h2
 ·exact h i x AB hx
theorem Q8 {names:List (List Tag)} {n:List Tag} {k j:Nat} (h:okS names k) (hn:names[k]? = some n) (h1:BS n=true) (h2:apart names n j) (hj:k≤j):okS names (k+1):=fun i m hi hm=>by
 by_cases e:i=k
 ·subst e
  rw [hn] at hm
  cases hm
  exact ⟨h1,fun a b ha hb=>h2 a b AB hb⟩
 ·exact h i m AB hm
theorem S2 {names:List (List Tag)} {k:Nat} (h:okS names k) (hk:names.length≤k) (hl:¬ (names.length:Int) > 6):NmI names :=
 ⟨by omega,fun n hn=>by
  obtain ⟨j,hj⟩:=List.mem_iff_getElem?.1 hn
  exact (h j n (by have:=(List.getElem?_eq_some_iff.1 hj).1; omega) hj).1,Mt (fun i j x y hij hx hy e=>(h j y (by have:=(List.getElem?_eq_some_iff.1 hy).1; omega) hy).2 i x hij hx e.symm)⟩
theorem On {names:List (List Tag)} (h:(names.length:Int) > 6):false=nmB names:=(L2 (fun hI=>by have:=hI.len; omega)).symm
theorem S3 {names:List (List Tag)} {k:Nat} {n:List Tag} (hn:names[k]? = some n) (h:BS n=false):false=nmB names:=(L2 (fun hI=>by rw [hI.ok n (AQ hn)] at h; cases h)).symm
theorem S4 {names:List (List Tag)} {k j:Nat} {n m:List Tag} (hn:names[k]? = some n) (hm:names[j]? = some m) (hj:j< k) (h:(text n==text m)=true):false=nmB names:=(L2 (fun hI=>Qq hI.nodup hn hm hj (eq_of_beq h))).symm
structure IxG (x:Idx):Prop where
 g:NmG x.names
 eq:NmI x.names→x=idxOf x.names
theorem IxG.ix {x:Idx} (h:IxG x) (h2:NmI x.names):IxI x:=⟨h.eq h2,h2⟩
structure SG (s:Sto):Prop where
 ix:IxG s.idx
 np:s.parts.length≤7
 part:∀ p∈s.parts,PrtI p
 nm2:s.mem.length≤21
 mem:∀ m∈s.mem,0≤m.id∧m.id≤7∧E4 m.row
theorem SG.pt {s:Sto} (h:SG s) (h3:s.parts.all (fun p=>Br p s.idx.names.length)=true):∀ p∈s.parts,PrtI p∧Au p=true:=fun p hp=>⟨h.part p hp,Fl (List.all_eq_true.1 h3 p hp)⟩
theorem SG.of {s:Sto} (h:SD s):SG s:=⟨⟨NmG.of h.nm h.nd,fun _=>h.idx⟩,by have:=h.np; omega,h.part,h.nm2,h.mem⟩
theorem SG.sd {s:Sto} (h:SG s) (h2:nmB s.idx.names=true) (h3:s.parts.length≤6):SD s:=⟨h.ix.eq (D2.1 h2),D2.1 h2,h.ix.g.nd,h3,h.part,h.nm2,h.mem⟩
theorem S5 {names:List (List Tag)} (h:NmI names):true=nmB names:=(D2.2 h).symm
end Go.Proofs.YtganlmloonielaaGreat
namespace Go.Proofs.YtganlmloonielaaGreat
set_option maxRecDepth 100000
set_option maxHeartbeats 4000000
theorem Jb (names:List (List Tag)) {w:World} {F:Nat→Prop} {a1:Option Addr} {n1 c1:Nat} (h1:RepS w F a1 n1 c1 names) (p0:NmG names):Calls Tryz.prog 149 [.slice a1 n1 c1].toArray w (As fun rv w'=>rv=.bool (nmB names)∧Ext w w'):=by
 refine goT Tryz.func149 ?_
 obtain ⟨rfl,ao,h1⟩:=h1.tp
 refine .s<|.g<|.r 1<|.d<|.s<|.s<|.g<|.r 3<|.d<|.b 0<|T.loop (X:=Nat) 0 (fun k=>[(0,.slice a1 names.length c1),(5,.slice a1 names.length c1),(6,vI (names.length:Int)),(7,vI (k:Int))]) (fun k O=>Chg (ins []) w O∧(k≤names.length)∧(Q6 names k)) (fun k=>names.length - k) AA ⟨AA,AA,AA,AA,trivial⟩ ⟨Chg.refl _ _,(by simp),(by exact Ua _)⟩ ?_
 rintro k ax O ⟨C,aq,ar⟩ W
 have ac:Mv [] [] w O:=Mv.inl C all_nil all_nil
 replace h1:=(sp ac C).g1 h1
 have E:Chg nil w O:=Chg.CY (Chg.refl nil w) C all_nil
 refine .s<|.g<|.bp ((k:Int)< (names.length:Int)) (fun ag=>?_) (fun ag=>.d<|.s<|.cf<|.x 0 rfl<|.s<|.g<|.r 4<|.d<|.rt Tryz.func149 Tryz.results149 (.bool (decide ((names.length:Int)≤6))) ⟨(congrArg Value.bool (by exact Q7 ‹_› AB)),E⟩)
 refine .d<|.s<|.ct<|.sk<|.s<|.b 1<|.s<|.g<|.r 1 ?_
 have ah:k< names.length:=AB
 refine .ix k 1 h1 ah ?_
 obtain ⟨aa,ab⟩:∃ y,names[k]? = some y:=⟨_,AP AB⟩
 have au:=AX ab; have al:=AQ ab
 obtain ⟨_,⟨ay,az,aA,rfl,J⟩,ai⟩:=h1.elem k aa ab
 have aj:=J.len
 subst aj
 have av:=J.max
 refine .lh 0 ai<|.r 2<|.d<|.s<|.g<|.r 1<|.cl (FV aa J.ta (w:=O) (F:=all)) ?_
 rintro aB am ⟨rfl,ae⟩
 replace ⟨h1,J,E,C⟩:=(se [] ae).g4 h1 J E C
 cases aw:(BS aa)
 ·exact .r 9<|.d<|.ct<|.s<|.g<|.r 1<|.d<|.rt Tryz.func149 Tryz.results149 (.bool false) ⟨(congrArg Value.bool (by exact Om ‹_› (.inl ‹_›))),E⟩
 refine .r 4<|.cl (JY names aa h1.ta J.ta (w:=am) (F:=all)) ?_
 rintro aC aD ⟨rfl,af⟩
 replace ⟨E,C⟩:=(se [] af).g2 E C
 exact .r 1<|.it ((k:Int)+1)<|.ne (FD aa 0 names+1) ((k:Int)+1) (fun ak=>.r 1<|.d<|.ct<|.s<|.g<|.r 1<|.d<|.rt Tryz.func149 Tryz.results149 (.bool false) ⟨(congrArg Value.bool (by exact Om ‹_› (.inr ‹_›))),E⟩) fun ak=>.r 1<|.d<|.cf<|.sk<|.ib 1<|.g<|.it ((k:Int)+1)<|.r 1<|.d<|W (k+1) _ _ ⟨AA,AA,AA,AA,trivial⟩ ⟨C,AB,(by exact Pc ‹_› ‹_› ‹_› ‹_›)⟩ AB
theorem Jc (ix:Idx) {w:World} {F:Nat→Prop} {a1:Option Addr} {n1 c1:Nat} (h1:RepS w F a1 n1 c1 ix.names) {a2:Option Addr} {n2 c2:Nat} (h2:RepS w F a2 n2 c2 ix.AV) (p0:IxG ix):Calls Tryz.prog 113 [.agg #[.slice a1 n1 c1,.slice a2 n2 c2]].toArray w (As fun rv w'=>rv=.bool (nmB ix.names)∧Ext w w'):=by
 refine goT Tryz.func113 ?_
 obtain ⟨rfl,cy,h1⟩:=h1.tp
 obtain ⟨rfl,cz,h2⟩:=h2.tp
 refine .s<|.g<|.np 30 [.slice a1 ix.names.length c1,.slice a2 ix.AV.length c2] fun af bB aW aA J bC=>?_
 replace ⟨h1,h2⟩:=(sn [] aA aW).g2 h1 h2
 have E:=aA
 refine .r 1<|.d<|.s<|.s<|.g<|.r 1<|.lb J<|.r 1<|.bp ((ix.names.length:Int) > 6) (fun bD=>.d<|.ct<|.s<|.g<|.r 1<|.d<|.rt Tryz.func113 Tryz.results113 (.bool false) ⟨(congrArg Value.bool (by exact On ‹_›)),E⟩) fun bD=>.d<|.cf<|.sk<|.s<|.g<|.r 1<|.d<|.s<|.s<|.g<|.r 1<|.d<|.b 0<|T.loop (X:=Int × Nat) (0,0) (fun (k,k1)=>[(1,.pointer (some ⟨af,0,none⟩)),(3,vI k),(4,vI (k1:Int))]) (fun (k,k1) az=>Chg (ins []) bB az∧(k1≤ix.names.length)∧(okS ix.names k1)∧(k=(((ix.names.take k1).map List.length).sum:Nat))∧(0≤k)∧(k≤1000 * k1)) (fun (k,k1)=>ix.names.length - k1) AA ⟨AA,AA,AA,trivial⟩ ⟨Chg.refl _ _,(by simp),(by exact Ve _),(by simp),(by simp),(by simp)⟩ ?_
 rintro ⟨k,k1⟩ db az ⟨ag,cA,cB,cC,cD,cE⟩ aB
 have aX:Mv [af] [af] bB az:=Mv.inl ag all_nil (all_cons (.inl AD) all_nil)
 replace ⟨h1,h2,J,E⟩:=(sp aX ag).g4 h1 h2 J E
 refine .s<|.s<|.g<|.r 2<|.lb J<|.r 1<|.bp ((k1:Int)< (ix.names.length:Int)) (fun bE=>?_) (fun bE=>?_)
 ·refine .d<|.ct<|.sk<|.s<|.b 1<|.s<|.s<|.g<|.r 1<|.lb J<|.r 1 ?_
  have bF:k1< ix.names.length:=AB
  refine .ix k1 1 h1 bF ?_
  obtain ⟨aj,ar⟩:∃ y,ix.names[k1]? = some y:=⟨_,AP AB⟩
  have cF:=AX ar; have b0:=AQ ar
  obtain ⟨_,⟨de,df,dg,rfl,bh⟩,bG⟩:=h1.elem k1 aj ar
  have bH:=bh.len
  subst bH
  have cG:=bh.max
  refine .lh 0 bG<|.cl (ET aj bh.ta (w:=az) (F:=all)) ?_
  rintro dh bI ⟨rfl,aY⟩
  replace ⟨h1,h2,J,E,ag⟩:=(se [af] aY).g5 h1 h2 J E ag
  cases cH:(BS aj)
  ·exact .r 1<|.d<|.ct<|.s<|.g<|.r 1<|.d<|.rt Tryz.func113 Tryz.results113 (.bool false) ⟨(congrArg Value.bool (by exact S3 ‹_› ‹_›)),E⟩
  refine .r 1<|.d<|.cf<|.sk<|.s<|.s<|.g<|.r 1<|.d<|.b 2<|T.loop (X:=Nat) 0 (fun k2=>[(1,.pointer (some ⟨af,0,none⟩)),(3,vI k),(4,vI (k1:Int)),(5,vI (k2:Int))]) (fun k2 bi=>Chg (ins []) bI bi∧(k2≤k1)∧(apart ix.names aj k2)) (fun k2=>k1 - k2) AA ⟨AA,AA,AA,AA,trivial⟩ ⟨Chg.refl _ _,AB,(by exact S1 _ _)⟩ ?_
  rintro k2 dj bi ⟨ai,cI,cJ⟩ aC
  have aZ:Mv [af] [af] bI bi:=Mv.inl ai all_nil (all_cons (.inl AD) all_nil)
  replace ⟨h1,h2,J,E,ag⟩:=(sp aZ ai).g5 h1 h2 J E ag
  refine .s<|.s<|.g<|.r 2<|.bp ((k2:Int)< (k1:Int)) (fun bJ=>?_) (fun bJ=>?_)
  ·refine .d<|.ct<|.sk<|.s<|.b 3<|.s<|.gd nil 11 fun dm ba=>?_
   replace ⟨h1,h2,J,E,ag,ai⟩:=(se [af] ba).g6 h1 h2 J E ag ai
   refine .r [0]<|.lb 1 J id<|.r [2] ?_
   have bK:k1< ix.names.length:=AB
   refine .ix 3 k1 1 h1 bK ?_
   obtain ⟨_,⟨dp,dq,dr,rfl,bL⟩,bM⟩:=h1.elem k1 aj ar
   have bN:=bL.len
   subst bN
   refine .lh 4 0 bM id<|GA.Bz (i:=5) AA (fun b7 bO=>C8 aj (bL.ta.ext bO) (by have q1:=(p0.g.sz _ ‹_›).1; omega) (fun t ht=>by have q1:=(p0.g.sz _ ‹_›).2 t ht; omega) (w:=b7) (F:=all))<|.r [6]<|.lb 7 J id<|.r [8] ?_
   have bP:k2< ix.names.length:=AB
   refine .ix 9 k2 1 h1 bP ?_
   obtain ⟨aD,aE⟩:∃ y,ix.names[k2]? = some y:=⟨_,AP AB⟩
   have cK:=AX aE; have b6:=AQ aE
   obtain ⟨_,⟨dt,du,dv,rfl,aF⟩,bQ⟩:=h1.elem k2 aD aE
   have bR:=aF.len
   subst bR
   have cL:=aF.max
   refine .lh 10 0 bQ id<|.d fun b8 bc=>?_
   replace ⟨h1,h2,J,aF,E,ag,ai⟩:=(se [af] bc).g7 h1 h2 J aF E ag ai
   refine .cl (C8 aD aF.ta (by have q1:=(p0.g.sz _ ‹_›).1; omega) (fun t ht=>by have q1:=(p0.g.sz _ ‹_›).2 t ht; omega) (w:=b8) (F:=all)) ?_
   rintro dw dx ⟨rfl,bd⟩
   replace ⟨h1,h2,J,E,ag,ai⟩:=(se [af] bd).g6 h1 h2 J E ag ai
   refine RG.eqv (v:=.bool ((text aj==text aD))) AA (SX (text aj) (text aD)) ?_
   cases cM:(text aj==text aD)
   ·exact .d<|.cf<|.sk<|.ib 3<|.g<|.r 1<|RG.int ((k2:Int)+1) AA (by have q0:=p0.g.len; omega)<|.r 1<|.d<|aC (k2+1) _ _ ⟨AA,AA,AA,AA,trivial⟩ ⟨ai,AB,(by exact Nv ‹_› ‹_› ‹_›)⟩ AB
   exact .d<|.ct<|.s<|.g<|.r 1<|.d<|.rt Tryz.func113 Tryz.results113 (.bool false) ⟨(congrArg Value.bool (by exact S4 (k:=k1) (j:=k2) ‹_› ‹_› AB ‹_›)),E⟩
  refine .d<|.cf<|.x 2 rfl<|.g<|.r 2<|.lb J<|.r 1 ?_
  have bS:k1< ix.names.length:=AB
  refine .ix k1 1 h1 bS ?_
  obtain ⟨_,⟨dy,dz,dA,rfl,b9⟩,bT⟩:=h1.elem k1 aj ar
  have bj:=b9.len
  subst bj
  exact .lh 0 bT<|.r 1<|RG.int (k+(aj.length:Int)) AA (by have q0:=p0.g.len; (have q1:=(p0.g.sz _ ‹_›).1; omega))<|.r 1<|.d<|.ib 1<|.g<|.r 1<|RG.int ((k1:Int)+1) AA (by have q0:=p0.g.len; omega)<|.r 1<|.d<|aB (k+(aj.length:Int),k1+1) _ _ ⟨AA,AA,AA,trivial⟩ ⟨ag,AB,(by exact Q8 ‹_› ‹_› ‹_› (by assumption:apart _ _ k2) AB),(by rw [Lz (f:=List.length) ‹_›]; omega),AB,(by have q1:=(p0.g.sz aj ‹_›).1; omega)⟩ (by (simp only []; omega))
 refine .d<|.cf<|.x 0 rfl<|.s<|.s<|.g<|.r 1<|.d<|.b 4<|T.loop (X:=Int × Nat) (k,0) (fun (k,k1)=>[(1,.pointer (some ⟨af,0,none⟩)),(3,vI k),(6,vI (k1:Int))]) (fun (k,k1) aG=>Chg (ins []) az aG∧(k1≤ix.AV.length)∧(NmI ix.names)∧(k=(KG ix.names:Int) - (((ix.AV.take k1).map (fun p=>p.ids.length)).sum:Nat))∧(k≤6000)∧(k ≥ - (1000 * k1:Int))) (fun (k,k1)=>ix.AV.length - k1) AA ⟨AA,AA,AA,trivial⟩ ⟨Chg.refl _ _,AB,(by exact S2 ‹_› AB AB),(by have q1:ix.names.take k1=ix.names:=List.take_of_length_le AB; have q2:k=(((ix.names.take k1).map List.length).sum:Nat):=‹_›; rw [q1] at q2; simp [q2,KG]),(by have q0:=p0.g.len; omega),AB⟩ ?_
 rintro ⟨k,k1⟩ cN aG ⟨O,cd,ce,cg,ci,cj⟩ am
 have aH:Mv [af] [af] az aG:=Mv.inl O all_nil (all_cons (.inl AD) all_nil)
 replace ⟨h1,h2,J,E⟩:=(sp aH O).g4 h1 h2 J E
 refine .s<|.s<|.g<|.r 2<|.lb J<|.r 1<|.bp ((k1:Int)< (ix.AV.length:Int)) (fun bk=>?_) (fun bk=>.d<|.cf<|.x 4 rfl<|.s<|.g<|.r 3<|.d<|.rt Tryz.func113 Tryz.results113 (.bool (k==0)) ⟨(congrArg Value.bool (by have p9:=p0.ix ‹_›; rw [← S5 p9.nm]; have q1:ix.AV.take k1=ix.AV:=List.take_of_length_le AB; have q2:k=(KG ix.names:Int) - (((ix.AV.take k1).map (fun p=>p.ids.length)).sum:Nat):=‹_›; have q3:=US p9; unfold Mk at q3; rw [q1] at q2; simp; omega)),E⟩)
 refine .d<|.ct<|.sk<|.s<|.b 5<|.s<|.g<|.r 1<|.lb J<|.r 1 ?_
 have bm:k1< ix.AV.length:=AB
 refine .ix k1 3 h2 bm ?_
 obtain ⟨C,au⟩:∃ y,ix.AV[k1]? = some y:=⟨_,AP AB⟩
 have ck:=AX au; have bU:=AQ au
 obtain ⟨_,⟨bV,cO,bW,rfl,ae⟩,bn⟩:=h2.elem k1 C au
 have bo:=ae.len
 subst bo
 have cm:=ae.max
 refine .lg 0 bn<|.np 149 [.string (bs []),.string (bs []),.slice none 0 0] fun ao cP ak aI bq br=>?_
 have co:=AS ak J.lt
 have cp:=E.cn ak
 have cq:=O.cn ak
 replace ⟨h1,h2,J,ae,E,O⟩:=(sn [af] aI ak).g6 h1 h2 J ae E O
 refine .sc [vT C.tag.key,vT C.tag.val,.slice bV C.ids.length bW] bq fun cQ aJ W bt=>?_
 replace ⟨h1,h2,J,ae,E,O⟩:=(so [ao,af] aJ).g6 h1 h2 J ae E O
 refine .d<|.s<|.s<|.gd nil 28 fun cR aK=>?_
 replace ⟨h1,h2,J,ae,W,E,O⟩:=(se [ao,af] aK).g7 h1 h2 J ae W E O
 refine .r [0]<|.lb 1 W id<|.r [2]<|GA.eqI (i:=3) (a:=(C.ids.length:Int)) (b:=0) AA (fun bu=>?_) (fun bu=>?_)
 ·refine .r [4,5,6,7,8,9,10,11,12,13,14,15]<|GA.skip AA fun cS aL=>?_
  replace ⟨h1,h2,J,ae,W,E,O⟩:=(se [ao,af] aL).g7 h1 h2 J ae W E O
  exact .r 4<|.d<|.ct<|.s<|.g<|.r 1<|.d<|.rt Tryz.func113 Tryz.results113 (.bool false) ⟨(congrArg Value.bool (by (have p9:=p0.ix ‹_›; (exfalso; have q1:=EM (p9.AV▸(by assumption:C∈ix.AV)); (have q2:=q1.2.1; omega))))),E⟩
 refine .r [4,5]<|.lb 6 W id<|.r [7]<|.lb 8 J id<|.r [9]<|.ln 10 W id<|.go 11<|.cl (fun aM av=>HC ix.names C.tag (h1.ta.ext av) (by have q0:=p0.g.len; omega) (w:=aM) (F:=all)) ?_
 intro aM av
 replace ⟨h2,J,ae,W,E,O⟩:=(se [ao,af] av).g6 h2 J ae W E O
 rintro cT cU ⟨⟨cV,cW,rfl,ay⟩,aw⟩
 have aN:=al2 W.lt J.lt
 have bv:Gb w.heap.size aM.heap.size:=E.size
 have hkeep_:=aw
 replace ⟨h2,J,ae,W,E,O⟩:=(se [ao,af] aw).g6 h2 J ae W E O
 refine ⟨Ext.chg hkeep_,?_⟩
 have ay:=ay.fr aN bv
 have cr:=ay.max
 refine GA.Bz (i:=12) AA (fun bX aO=>J4 C.ids (ids ix.names C.tag) (ae.ta.ext aO) (ay.ta.ext aO) (w:=bX) (F:=all)) ?_
 cases cu:(C.ids==(ids ix.names C.tag))
 ·refine .r [13,14,15]<|GA.skip AA fun cX aP=>?_
  replace ⟨h2,J,W,E,O⟩:=(se [ao,af] aP).g5 h2 J W E O
  exact .r 4<|.d<|.ct<|.s<|.g<|.r 1<|.d<|.rt Tryz.func113 Tryz.results113 (.bool false) ⟨(congrArg Value.bool (by (have p9:=p0.ix ‹_›; (exfalso; have q1:=EM (p9.AV▸(by assumption:C∈ix.AV)); exact absurd (by rw [← q1.1]; simp:(C.ids==ids ix.names C.tag)=true) (by rw [(by assumption:(C.ids==ids ix.names C.tag)=false)]; simp))))),E⟩
 refine .r [13,14,15,16]<|GA.EE (i:=17) ((k1:Int) > 0) AA (fun bw=>?_) (fun bw=>?_)
 ·refine .r [18,19]<|.lb 20 J id<|.r [21]<|GA.int (i:=22) ((k1:Int) - 1) AA (by have q0:=p0.g.len; omega) ?_
  have aQ:k1 - 1< ix.AV.length:=AB
  refine GA.idx (i:=23) (k1 - 1) (len:=ix.AV.length) (z:=(k1:Int) - 1) (sz:=3) AA AB aQ (h2.addr (Nat.zero_lt_of_lt aQ))<|.r [24] ?_
  obtain ⟨aR,ax⟩:∃ y,ix.AV[k1 - 1]? = some y:=⟨_,AP AB⟩
  have cv:=AX ax; have bY:=AQ ax
  obtain ⟨_,⟨cY,cZ,c7,rfl,bg⟩,bz⟩:=h2.elem (k1 - 1) aR ax
  have bA:=bg.len
  subst bA
  have cw:=bg.max
  refine .lg 25 0 bz id<|.r [26]<|.ln 27 W id<|.d fun bZ aS=>?_
  replace ⟨W,E,O⟩:=(se [] aS).g3 W E O
  refine .cl (J6 aR.tag C.tag (w:=bZ) (F:=all)) ?_
  rintro c8 c9 ⟨rfl,aT⟩
  replace ⟨W,E,O⟩:=(se [] aT).g3 W E O
  cases cx:(DF aR.tag C.tag)
  ·exact .r 3<|.d<|.ct<|.s<|.g<|.r 1<|.d<|.rt Tryz.func113 Tryz.results113 (.bool false) ⟨(congrArg Value.bool (by (have p9:=p0.ix ‹_›; (exfalso; have q1:=EM (p9.AV▸(by assumption:C∈ix.AV)); exact absurd (Nk (names:=ix.names) (i:=k1) (by rw [← p9.AV]; assumption) (by rw [← p9.AV]; assumption) AB) (by simp [*]))))),E⟩
  exact .r 3<|.d<|.cf<|.sk<|.g<|.r 2<|.lb W<|.r 1<|RG.int (k - (C.ids.length:Int)) AA (by have q0:=p0.g.len; (have p9:=p0.ix ‹_›; have q1:=EM (p9.AV▸(by assumption:C∈ix.AV)); have q2:=Ly ix.names C.tag; rw [← q1.1] at q2; have q3:=PV ix.names; rw [← p9.AV] at q3; omega))<|.r 1<|.d<|.ib 5<|.g<|.r 1<|RG.int ((k1:Int)+1) AA (by have q0:=p0.g.len; omega)<|.r 1<|.d<|am (k - (C.ids.length:Int),k1+1) _ _ ⟨AA,AA,AA,trivial⟩ ⟨O,AB,‹_›,(by rw [Lz (f:=fun p=>p.ids.length) (l:=ix.AV) (i:=k1) (x:=C) ‹_›]; omega),AB,(by have p9:=p0.ix ‹_›; have q1:=EM (p9.AV▸(by assumption:C∈ix.AV)); have q2:=Ly ix.names C.tag; rw [← q1.1] at q2; have q3:=p9.nm.len; omega)⟩ (by (simp only []; omega))
 refine .r [18]<|GA.skip AA fun da aU=>?_
 replace ⟨W,E,O⟩:=(se [] aU).g3 W E O
 exact .r 4<|.d<|.cf<|.sk<|.g<|.r 2<|.lb W<|.r 1<|RG.int (k - (C.ids.length:Int)) AA (by have q0:=p0.g.len; omega)<|.r 1<|.d<|.ib 5<|.g<|.r 1<|RG.int ((k1:Int)+1) AA (by have q0:=p0.g.len; omega)<|.r 1<|.d<|am (k - (C.ids.length:Int),k1+1) _ _ ⟨AA,AA,AA,trivial⟩ ⟨O,AB,‹_›,(by rw [Lz (f:=fun p=>p.ids.length) (l:=ix.AV) (i:=k1) (x:=C) ‹_›]; omega),AB,(by have p9:=p0.ix ‹_›; have q1:=EM (p9.AV▸(by assumption:C∈ix.AV)); have q2:=Ly ix.names C.tag; rw [← q1.1] at q2; have q3:=p9.nm.len; omega)⟩ (by (simp only []; omega))
theorem GF (ix:Idx) {w:World} {F:Nat→Prop} {a1:Option Addr} {n1 c1:Nat} (h1:RepS w F a1 n1 c1 ix.names) {a2:Option Addr} {n2 c2:Nat} (h2:RepS w F a2 n2 c2 ix.AV) (p0:IxG ix):Calls Tryz.prog 103 [.agg #[.slice a1 n1 c1,.slice a2 n2 c2]].toArray w (As fun rv w'=>rv=.bool (nmB ix.names)∧Ext w w'):=by
 refine goT Tryz.func103 ?_
 obtain ⟨rfl,aw,h1⟩:=h1.tp
 obtain ⟨rfl,ax,h2⟩:=h2.tp
 refine .s<|.g<|.np 30 [.slice a1 ix.names.length c1,.slice a2 ix.AV.length c2] fun O aB af W E am=>?_
 replace ⟨h1,h2⟩:=(sn [] W af).g2 h1 h2
 have C:=W
 refine .r 1<|.d<|.s<|.gd nil 10 fun aC ag=>?_
 replace ⟨h1,h2,E,C⟩:=(se [O] ag).g4 h1 h2 E C
 refine .r [0]<|.lb 1 E id<|GA.Bz (i:=2) AA (fun au ao=>Jb ix.names (h1.ta.ext ao) p0.g (w:=au) (F:=all)) ?_
 cases ay:(nmB ix.names)
 ·refine .r [3]<|GA.skip AA fun aD ah=>?_
  replace ⟨h1,h2,E,C⟩:=(se [O] ah).g4 h1 h2 E C
  exact .r 3<|.d<|.rt Tryz.func103 Tryz.results103 (.bool false) ⟨(congrArg Value.bool (by rfl)),C⟩
 refine .r [3,4]<|.lb 5 E id<|.r [6]<|.lb 7 E id<|.go 8<|.cl (fun al aa=>E9 ix.names (h1.ta.ext aa) (D2.1 ‹_›) p0.g.nd (w:=al) (F:=all)) ?_
 intro al aa
 replace ⟨h2,E,C⟩:=(se [O] aa).g3 h2 E C
 rintro aE aF ⟨⟨_,rfl,⟨aG,aH,aI,aJ,aK,aL,rfl,ae,J⟩⟩,ab⟩
 have ac:=al1 E.lt
 have ai:Gb w.heap.size al.heap.size:=C.size
 have hkeep_:=ab
 replace ⟨h2,C⟩:=(se [O] ab).g2 h2 C
 refine ⟨Ext.chg hkeep_,?_⟩
 have ae:=ae.fr ac ai
 have az:=ae.max
 have J:=J.fr ac ai
 have aA:=J.max
 have aq:=ae.len
 subst aq
 have ar:=J.len
 subst ar
 refine .r [9]<|.d fun av aj=>?_
 replace ⟨h2,J,C⟩:=(se [O] aj).g3 h2 J C
 refine .cl (H5 ix.AV ((idxOf ix.names).AV) h2.ta J.ta (w:=av) (F:=all)) ?_
 rintro aM aN ⟨rfl,ak⟩
 replace C:=(se [] ak).g1 C
 exact .r 2<|.d<|.rt Tryz.func103 Tryz.results103 (.bool (ix.AV==((idxOf ix.names).AV))) ⟨(congrArg Value.bool (by (have p9:=p0.ix (D2.1 ‹_›); rw [p9.AV]; simp [idxOf]; done))),C⟩
theorem GG (s:Sto) {w:World} {F:Nat→Prop} {a1:Option Addr} {n1 c1:Nat} (h1:RepS w F a1 n1 c1 s.idx.names) {a2:Option Addr} {n2 c2:Nat} (h2:RepS w F a2 n2 c2 s.idx.AV) {a3:Option Addr} {n3 c3:Nat} (h3:RepS w F a3 n3 c3 s.parts) {a4:Option Addr} {n4 c4:Nat} (h4:RepS w F a4 n4 c4 s.mem) (p0:SG s):Calls Tryz.prog 67 [.agg #[.slice a1 n1 c1,.slice a2 n2 c2,.slice a3 n3 c3,.slice a4 n4 c4]].toArray w (As fun rv w'=>rv=.bool (nmB s.idx.names&&Ak s)∧Ext w w'):=by
 refine goT Tryz.func67 ?_
 obtain ⟨rfl,bj,h1⟩:=h1.tp
 obtain ⟨rfl,bk,h2⟩:=h2.tp
 obtain ⟨rfl,bm,h3⟩:=h3.tp
 obtain ⟨rfl,bn,h4⟩:=h4.tp
 refine .s<|.g<|.np 34 [.slice a1 s.idx.names.length c1,.slice a2 s.idx.AV.length c2,.slice a3 s.parts.length c3,.slice a4 s.mem.length c4] fun J aY au ah C aI=>?_
 replace ⟨h1,h2,h3,h4⟩:=(sn [] ah au).g4 h1 h2 h3 h4
 have E:=ah
 refine .r 1<|.d<|.s<|.g<|.r 2<|.lb C<|.r 2<|.d<|.s<|.s<|.g<|.r 1<|.ln C<|.cl (Jc s.idx h1.ta h2.ta p0.ix (w:=aY) (F:=all)) ?_
 rintro bO aJ ⟨rfl,av⟩
 replace ⟨h1,h2,h3,h4,C,E⟩:=(se [J] av).g6 h1 h2 h3 h4 C E
 cases bo:(nmB s.idx.names)
 ·exact .r 13<|.d<|.ct<|.s<|.g<|.r 1<|.d<|.rt Tryz.func67 Tryz.results67 (.bool false) ⟨(congrArg Value.bool (by rfl)),E⟩
 refine .r 3<|.lb C<|.r 1<|.bp ((s.parts.length:Int) > 6) (fun aK=>.r 7<|.d<|.ct<|.s<|.g<|.r 1<|.d<|.rt Tryz.func67 Tryz.results67 (.bool false) ⟨(congrArg Value.bool (by (rw [Bool.true_and]; symm; exact Gt AB))),E⟩) fun aK=>.r 3<|.lb C<|.r 1<|.bp ((s.mem.length:Int) > 20) (fun aL=>.r 1<|.d<|.ct<|.s<|.g<|.r 1<|.d<|.rt Tryz.func67 Tryz.results67 (.bool false) ⟨(congrArg Value.bool (by (rw [Bool.true_and]; symm; exact Gt AB))),E⟩) fun aL=>.r 1<|.d<|.cf<|.sk<|.s<|.s<|.g<|.r 1<|.d<|.b 0<|T.loop (X:=Nat) 0 (fun k=>[(1,.pointer (some ⟨J,0,none⟩)),(3,vI (s.idx.names.length:Int)),(4,vI (k:Int))]) (fun k ac=>Chg (ins []) aJ ac∧(k≤s.parts.length)∧((s.parts.drop k).all (fun p=>Br p s.idx.names.length)=s.parts.all (fun p=>Br p s.idx.names.length))∧(nmB s.idx.names=true)) (fun k=>s.parts.length - k) AA ⟨AA,AA,AA,trivial⟩ ⟨Chg.refl _ _,(by simp),(by rfl),‹_›⟩ ?_
 rintro k bP ac ⟨aa,bq,br,bt⟩ ai
 have aw:Mv [J] [J] aJ ac:=Mv.inl aa all_nil (all_cons (.inl AD) all_nil)
 replace ⟨h1,h2,h3,h4,C,E⟩:=(sp aw aa).g6 h1 h2 h3 h4 C E
 refine .s<|.s<|.g<|.r 2<|.lb C<|.r 1<|.bp ((k:Int)< (s.parts.length:Int)) (fun aM=>?_) (fun aM=>?_)
 ·refine .d<|.ct<|.sk<|.s<|.b 1<|.s<|.g<|.r 1<|.lb C<|.r 1 ?_
  have aN:k< s.parts.length:=AB
  refine .ix k 2 h3 aN ?_
  obtain ⟨aC,aj⟩:∃ y,s.parts[k]? = some y:=⟨_,AP AB⟩
  have bu:=AX aj; have aW:=AQ aj
  obtain ⟨_,⟨bQ,bR,bS,bT,bU,bV,rfl,aD,aE⟩,aO⟩:=h3.elem k aC aj
  have aP:=aD.len
  subst aP
  have bv:=aD.max
  have aQ:=aE.len
  subst aQ
  have bw:=aE.max
  refine .lg 0 aO<|.r 1<|.cl (J5 aC (s.idx.names.length:Int) aD.ta aE.ta (w:=ac) (F:=all)) ?_
  rintro bW bX ⟨rfl,ax⟩
  replace ⟨h1,h2,h3,h4,C,E,aa⟩:=(se [J] ax).g7 h1 h2 h3 h4 C E aa
  cases bz:(Br aC (s.idx.names.length:Int))
  ·exact .r 1<|.d<|.ct<|.s<|.g<|.r 1<|.d<|.rt Tryz.func67 Tryz.results67 (.bool false) ⟨(congrArg Value.bool (by (rw [Bool.true_and]; symm; exact Gu (FJ ‹_› ‹_› ‹_›)))),E⟩
  exact .r 1<|.d<|.cf<|.sk<|.ib 1<|.g<|.r 1<|RG.int ((k:Int)+1) AA (by have:=p0.ix.g.len; omega)<|.r 1<|.d<|ai (k+1) _ _ ⟨AA,AA,AA,trivial⟩ ⟨aa,AB,(by exact Fz ‹_› ‹_› ‹_›),‹_›⟩ AB
 refine .d<|.cf<|.x 0 rfl<|.s<|.s<|.g<|.r 1<|.d<|.b 2<|T.loop (X:=Nat) 0 (fun k=>[(1,.pointer (some ⟨J,0,none⟩)),(3,vI (s.idx.names.length:Int)),(5,vI (k:Int))]) (fun k ae=>Chg (ins []) ac ae∧(k≤s.mem.length)∧(s.parts.all (fun p=>Br p s.idx.names.length)=true)∧((s.mem.drop k).all (Dz s.idx.names.length)=s.mem.all (Dz s.idx.names.length))∧(nmB s.idx.names=true)) (fun k=>s.mem.length - k) AA ⟨AA,AA,AA,trivial⟩ ⟨Chg.refl _ _,(by simp),(by exact HR ‹_› AB),(by simp),‹_›⟩ ?_
 rintro k bY ae ⟨O,bA,bB,bC,bD⟩ ak
 have ay:Mv [J] [J] ac ae:=Mv.inl O all_nil (all_cons (.inl AD) all_nil)
 replace ⟨h1,h2,h3,h4,C,E⟩:=(sp ay O).g6 h1 h2 h3 h4 C E
 refine .s<|.s<|.g<|.r 2<|.lb C<|.r 1<|.bp ((k:Int)< (s.mem.length:Int)) (fun aR=>?_) (fun aR=>?_)
 ·refine .d<|.ct<|.sk<|.s<|.b 3<|.s<|.g<|.r 1<|.lb C<|.r 1 ?_
  have aS:k< s.mem.length:=AB
  refine .ix k 3 h4 aS<|.r 1 ?_
  obtain ⟨af,ab⟩:∃ y,s.mem[k]? = some y:=⟨_,AP AB⟩
  have bE:=AX ab; have aX:=AQ ab
  obtain ⟨_,rfl,aT⟩:=h4.elem k af ab
  refine .lh 0 aT<|.r 1<|.cl (CO af.id 1 (s.idx.names.length:Int) (w:=ae) (F:=all)) ?_
  rintro bZ aZ ⟨rfl,az⟩
  replace ⟨h1,h2,h3,h4,C,E,O⟩:=(se [J] az).g7 h1 h2 h3 h4 C E O
  cases aA:(inR af.id 1 (s.idx.names.length:Int))
  ·have bF:=Ex aA
   exact .r 11<|.d<|.ct<|.s<|.g<|.r 1<|.d<|.rt Tryz.func67 Tryz.results67 (.bool false) ⟨(congrArg Value.bool (by (rw [Bool.true_and]; symm; exact Gv (FJ ‹_› ‹_› (by simp [Dz, *]))))),E⟩
  have bG:=CN aA
  refine .r 3<|.lb C<|.r 1 ?_
  have aU:k< s.mem.length:=AB
  refine .ix k 3 h4 aU<|.r 1 ?_
  obtain ⟨_,rfl,aV⟩:=h4.elem k af ab
  refine .lg 1 aV<|.cl (Ft af.row (w:=aZ) (F:=all)) ?_
  rintro b0 b6 ⟨rfl,aB⟩
  replace ⟨h1,h2,h3,h4,C,E,O⟩:=(se [J] aB).g7 h1 h2 h3 h4 C E O
  cases bH:(Bw af.row)
  ·exact .r 2<|.d<|.ct<|.s<|.g<|.r 1<|.d<|.rt Tryz.func67 Tryz.results67 (.bool false) ⟨(congrArg Value.bool (by (rw [Bool.true_and]; symm; exact Gv (FJ ‹_› ‹_› (by simp [Dz, *]))))),E⟩
  exact .r 2<|.d<|.cf<|.sk<|.ib 3<|.g<|.r 1<|RG.int ((k:Int)+1) AA (by have:=p0.ix.g.len; omega)<|.r 1<|.d<|ak (k+1) _ _ ⟨AA,AA,AA,trivial⟩ ⟨O,AB,‹_›,(by exact Fz ‹_› ‹_› (by simp only [Dz, *]; rfl)),‹_›⟩ AB
 refine .d<|.cf<|.x 2 rfl<|.s<|.s<|.g<|.r 1<|.d<|.b 4<|T.loop (X:=Nat) 1 (fun k=>[(1,.pointer (some ⟨J,0,none⟩)),(3,vI (s.idx.names.length:Int)),(6,vI (k:Int))]) (fun k al=>Chg (ins []) ae al∧(1≤k)∧(k≤s.idx.names.length+1)∧(s.parts.all (fun p=>Br p s.idx.names.length)=true)∧(s.mem.all (Dz s.idx.names.length)=true)∧(((List.range s.idx.names.length).drop (k - 1)).all (EZ s)=(List.range s.idx.names.length).all (EZ s))∧(nmB s.idx.names=true)) (fun k=>s.idx.names.length+1 - k) AA ⟨AA,AA,AA,trivial⟩ ⟨Chg.refl _ _,AB,AB,‹_›,(by exact HR ‹_› AB),(by rfl),‹_›⟩ ?_
 rintro k bI al ⟨W,bJ,ba,bc,bd,bg,bh⟩ ag
 have am:Mv [J] [J] ae al:=Mv.inl W all_nil (all_cons (.inl AD) all_nil)
 replace ⟨h1,h2,h3,h4,C,E⟩:=(sp am W).g6 h1 h2 h3 h4 C E
 refine .s<|.s<|.g<|.r 2<|.bp ((k:Int)≤(s.idx.names.length:Int)) (fun aF=>?_) (fun aF=>.d<|.cf<|.x 4 rfl<|.s<|.g<|.r 1<|.d<|.rt Tryz.func67 Tryz.results67 (.bool true) ⟨(congrArg Value.bool (by rw [Bool.true_and]; symm; exact LD AB AB ‹_› ‹_› (Qr ‹_› AB))),E⟩)
 refine .d<|.ct<|.sk<|.s<|.b 5<|.s<|.g<|.ln C<|.r 1<|.cl (GU s (k:Int) h1.ta h2.ta h3.ta h4.ta (by have:=p0.np; omega) (fun p hp=>(p0.part p hp).sz) (by have:=p0.nm2; omega) (w:=al) (F:=all)) ?_
 rintro bK bL ⟨⟨bM,bN,rfl,ao⟩,aq⟩
 have ar:=al1 C.lt
 have aG:Gb w.heap.size al.heap.size:=E.size
 replace ⟨E,W⟩:=(se [] aq).g2 E W
 have ao:=ao.fr ar aG
 have bi:=ao.max
 exact .r 1<|.bp ((((rowsOf s (k:Int)).length):Int) > 24) (fun aH=>.d<|.ct<|.s<|.g<|.r 1<|.d<|.rt Tryz.func67 Tryz.results67 (.bool false) ⟨(congrArg Value.bool (by (rw [Bool.true_and]; symm; exact LC (Tt ‹_› AB AB AB)))),E⟩) fun aH=>.d<|.cf<|.sk<|.ib 5<|.g<|.r 1<|RG.int ((k:Int)+1) AA (by have:=p0.ix.g.len; omega)<|.r 1<|.d<|ag (k+1) _ _ ⟨AA,AA,AA,trivial⟩ ⟨W,AB,AB,‹_›,‹_›,(by exact Oj ‹_› AB AB AB),‹_›⟩ AB
theorem Ee (s:Sto) {w:World} {F:Nat→Prop} {a1:Option Addr} {n1 c1:Nat} (h1:RepS w F a1 n1 c1 s.idx.names) {a2:Option Addr} {n2 c2:Nat} (h2:RepS w F a2 n2 c2 s.idx.AV) {a3:Option Addr} {n3 c3:Nat} (h3:RepS w F a3 n3 c3 s.parts) {a4:Option Addr} {n4 c4:Nat} (h4:RepS w F a4 n4 c4 s.mem) (p0:SG s):Calls Tryz.prog 57 [.agg #[.slice a1 n1 c1,.slice a2 n2 c2,.slice a3 n3 c3,.slice a4 n4 c4]].toArray w (As fun rv w'=>rv=.bool (nmB s.idx.names&&Ak s)∧Ext w w'):=by
 refine goT Tryz.func57 ?_
 obtain ⟨rfl,bY,h1⟩:=h1.tp
 obtain ⟨rfl,bZ,h2⟩:=h2.tp
 obtain ⟨rfl,b0,h3⟩:=h3.tp
 obtain ⟨rfl,b6,h4⟩:=h4.tp
 refine .s<|.g<|.np 34 [.slice a1 s.idx.names.length c1,.slice a2 s.idx.AV.length c2,.slice a3 s.parts.length c3,.slice a4 s.mem.length c4] fun J bD aI aq E bc=>?_
 replace ⟨h1,h2,h3,h4⟩:=(sn [] aq aI).g4 h1 h2 h3 h4
 have C:=aq
 refine .r 1<|.d<|.s<|.s<|.g<|.r 1<|.ln E<|.cl (GF s.idx h1.ta h2.ta p0.ix (w:=bD) (F:=all)) ?_
 rintro cD bd ⟨rfl,aJ⟩
 replace ⟨h1,h2,h3,h4,E,C⟩:=(se [J] aJ).g6 h1 h2 h3 h4 E C
 cases b7:(nmB s.idx.names)
 ·exact .r 13<|.d<|.ct<|.s<|.g<|.r 1<|.d<|.rt Tryz.func57 Tryz.results57 (.bool false) ⟨(congrArg Value.bool (by rfl)),C⟩
 refine .r 3<|.lb E<|.r 1<|.bp ((s.parts.length:Int) > 6) (fun bg=>.r 7<|.d<|.ct<|.s<|.g<|.r 1<|.d<|.rt Tryz.func57 Tryz.results57 (.bool false) ⟨(congrArg Value.bool (by (rw [Bool.true_and]; symm; exact Gt AB))),C⟩) fun bg=>.r 3<|.lb E<|.r 1<|.bp ((s.mem.length:Int) > 20) (fun bh=>.r 1<|.d<|.ct<|.s<|.g<|.r 1<|.d<|.rt Tryz.func57 Tryz.results57 (.bool false) ⟨(congrArg Value.bool (by (rw [Bool.true_and]; symm; exact Gt AB))),C⟩) fun bh=>.r 1<|.d<|.cf<|.sk<|.s<|.g<|.r 2<|.lb E<|.r 2<|.d<|.s<|.s<|.g<|.r 1<|.lb E<|.r 2<|.d<|.b 0<|T.loop (X:=Nat) 0 (fun k=>[(1,.pointer (some ⟨J,0,none⟩)),(3,vI (s.idx.names.length:Int)),(30,.slice a3 s.parts.length c3),(31,vI (s.parts.length:Int)),(32,vI (k:Int))]) (fun k ar=>Chg (ins []) bd ar∧(k≤s.parts.length)∧((s.parts.drop k).all (fun p=>Br p s.idx.names.length)=s.parts.all (fun p=>Br p s.idx.names.length))∧(nmB s.idx.names=true)) (fun k=>s.parts.length - k) AA ⟨AA,AA,AA,AA,AA,trivial⟩ ⟨Chg.refl _ _,(by simp),(by rfl),‹_›⟩ ?_
 rintro k cE ar ⟨O,b8,b9,cd⟩ au
 have aK:Mv [J] [J] bd ar:=Mv.inl O all_nil (all_cons (.inl AD) all_nil)
 replace ⟨h1,h2,h3,h4,E,C⟩:=(sp aK O).g6 h1 h2 h3 h4 E C
 refine .s<|.g<|.bp ((k:Int)< (s.parts.length:Int)) (fun bi=>?_) (fun bi=>?_)
 ·refine .d<|.s<|.ct<|.sk<|.s<|.b 1<|.s<|.g ?_
  have bj:k< s.parts.length:=AB
  refine .ix k 2 h3 bj ?_
  obtain ⟨ag,av⟩:∃ y,s.parts[k]? = some y:=⟨_,AP AB⟩
  have ce:=AX av; have bC:=AQ av
  obtain ⟨_,⟨bE,cF,bF,bG,cG,bH,rfl,ae,ak⟩,bk⟩:=h3.elem k ag av
  have bm:=ae.len
  subst bm
  have cg:=ae.max
  have bn:=ak.len
  subst bn
  have ci:=ak.max
  refine .lg 0 bk<|.np 42 [.slice none 0 0,.slice none 0 0] fun aH cH ah aL bo bq=>?_
  have cj:=AS ah E.lt
  have ck:=C.cn ah
  have cm:=O.cn ah
  replace ⟨h1,h2,h3,h4,E,ae,ak,C,O⟩:=(sn [J] aL ah).g9 h1 h2 h3 h4 E ae ak C O
  refine .sc [.slice bE ag.ids.length bF,.slice bG ag.blocks.length bH] bo fun bI aM ai br=>?_
  replace ⟨h1,h2,h3,h4,E,ae,ak,C,O⟩:=(so [aH,J] aM).g9 h1 h2 h3 h4 E ae ak C O
  refine .d<|.s<|.g<|.ln ai<|.cl (C7 ag ae.ta ak.ta (w:=bI) (F:=all)) ?_
  rintro cI bJ ⟨rfl,aN⟩
  replace ⟨h1,h2,h3,h4,E,ae,ai,C,O⟩:=(se [aH,J] aN).g9 h1 h2 h3 h4 E ae ai C O
  cases co:(Au ag)
  ·exact .r 14<|.d<|.ct<|.s<|.g<|.r 1<|.d<|.rt Tryz.func57 Tryz.results57 (.bool false) ⟨(congrArg Value.bool (by (rw [Bool.true_and]; symm; exact Gu (FJ ‹_› ‹_› (by exact Q2 ‹_›))))),C⟩
  refine .r 3<|.lb ai<|.r 1<|.eq (ag.ids.length:Int) 0 (fun bt=>.r 8<|.d<|.ct<|.s<|.g<|.r 1<|.d<|.rt Tryz.func57 Tryz.results57 (.bool false) ⟨(congrArg Value.bool (by (rw [Bool.true_and]; symm; exact Gu (FJ ‹_› ‹_› (by exact Q3 ‹_›))))),C⟩) fun bt=>.r 3<|.lb ai<|.cl (GS ag.ids ae.ta AB (w:=bJ) (F:=all)) ?_
  rintro cJ bu ⟨rfl,aO⟩
  replace ⟨h1,h2,h3,h4,E,C,O⟩:=(se [aH,J] aO).g7 h1 h2 h3 h4 E C O
  refine .r 1<|.bp (maxOf ag.ids > (s.idx.names.length:Int)) (fun bv=>.r 1<|.d<|.ct<|.s<|.g<|.r 1<|.d<|.rt Tryz.func57 Tryz.results57 (.bool false) ⟨(congrArg Value.bool (by (rw [Bool.true_and]; symm; exact Gu (FJ ‹_› ‹_› (by exact Q4 ‹_› ‹_› ‹_›))))),C⟩) fun bv=>.r 1<|.d<|.cf<|.sk<|.ib 1<|.g<|RG.int ((k:Int)+1) AA (by have:=p0.ix.g.len; omega)<|.r 1<|.d ?_
  have bw:Mv [aH,J] [J] bu bu:=Mv.less (all_cons AE all_nil)
  replace ⟨h1,h2,h3,h4⟩:=(sp bw (Chg.refl nil _)).g4 h1 h2 h3 h4
  exact au (k+1) _ _ ⟨AA,AA,AA,AA,AA,trivial⟩ ⟨O,AB,(by exact Fz ‹_› ‹_› (Q5 ‹_› ‹_› ‹_›)),‹_›⟩ AB
 refine .d<|.s<|.cf<|.x 0 rfl<|.s<|.s<|.g<|.r 1<|.lb E<|.r 2<|.d<|.b 2<|T.loop (X:=Nat) 0 (fun k=>[(1,.pointer (some ⟨J,0,none⟩)),(3,vI (s.idx.names.length:Int)),(54,.slice a4 s.mem.length c4),(55,vI (s.mem.length:Int)),(56,vI (k:Int))]) (fun k aw=>Chg (ins []) ar aw∧(k≤s.mem.length)∧(s.parts.all (fun p=>Br p s.idx.names.length)=true)∧((s.mem.drop k).all (Dz s.idx.names.length)=s.mem.all (Dz s.idx.names.length))∧(nmB s.idx.names=true)) (fun k=>s.mem.length - k) AA ⟨AA,AA,AA,AA,AA,trivial⟩ ⟨Chg.refl _ _,(by simp),(by exact HR ‹_› AB),(by simp),‹_›⟩ ?_
 rintro k cK aw ⟨W,cp,cq,cr,cu⟩ ax
 have aP:Mv [J] [J] ar aw:=Mv.inl W all_nil (all_cons (.inl AD) all_nil)
 replace ⟨h1,h2,h3,h4,E,C⟩:=(sp aP W).g6 h1 h2 h3 h4 E C
 refine .s<|.g<|.bp ((k:Int)< (s.mem.length:Int)) (fun aR=>?_) (fun aR=>?_)
 ·refine .d<|.s<|.ct<|.sk<|.s<|.b 3<|.s<|.g ?_
  have aS:k< s.mem.length:=AB
  refine .ix k 3 h4 aS ?_
  obtain ⟨aa,al⟩:∃ y,s.mem[k]? = some y:=⟨_,AP AB⟩
  have bK:=AX al; have bz:=AQ al
  obtain ⟨_,rfl,aT⟩:=h4.elem k aa al
  refine .lg 0 aT<|.np 107 [vI 0,vI 0,vI 0] fun am cv ab ay aU aV=>?_
  have bL:=AS ab E.lt
  have bM:=C.cn ab
  have bN:=W.cn ab
  replace ⟨h1,h2,h3,h4,E,C,W⟩:=(sn [J] ay ab).g7 h1 h2 h3 h4 E C W
  refine .sc [vI aa.id,vI aa.row.t,vI aa.row.v] aU fun bA az af aW=>?_
  replace ⟨h1,h2,h3,h4,E,C,W⟩:=(so [am,J] az).g7 h1 h2 h3 h4 E C W
  refine .d<|.s<|.g<|.r 1<|.lb af<|.r 1<|.cl (CM aa.id 1 (s.idx.names.length:Int) (w:=bA) (F:=all)) ?_
  rintro cw bB ⟨rfl,aA⟩
  replace ⟨h1,h2,h3,h4,E,af,C,W⟩:=(se [am,J] aA).g8 h1 h2 h3 h4 E af C W
  cases aB:(inR aa.id 1 (s.idx.names.length:Int))
  ·have bO:=Ex aB
   exact .r 7<|.d<|.ct<|.s<|.g<|.r 1<|.d<|.rt Tryz.func57 Tryz.results57 (.bool false) ⟨(congrArg Value.bool (by (rw [Bool.true_and]; symm; exact Gv (FJ ‹_› ‹_› (by simp [Dz, *]))))),C⟩
  have bP:=CN aB
  refine .r 3<|.ln af<|.cl (Hl aa.row (w:=bB) (F:=all)) ?_
  rintro cx aQ ⟨rfl,aC⟩
  replace ⟨h1,h2,h3,h4,E,C,W⟩:=(se [am,J] aC).g7 h1 h2 h3 h4 E C W
  cases bQ:(Bw aa.row)
  ·exact .r 2<|.d<|.ct<|.s<|.g<|.r 1<|.d<|.rt Tryz.func57 Tryz.results57 (.bool false) ⟨(congrArg Value.bool (by (rw [Bool.true_and]; symm; exact Gv (FJ ‹_› ‹_› (by simp [Dz, *]))))),C⟩
  refine .r 2<|.d<|.cf<|.sk<|.ib 3<|.g<|RG.int ((k:Int)+1) AA (by have:=p0.ix.g.len; omega)<|.r 1<|.d ?_
  have aX:Mv [am,J] [J] aQ aQ:=Mv.less (all_cons AE all_nil)
  replace ⟨h1,h2,h3,h4⟩:=(sp aX (Chg.refl nil _)).g4 h1 h2 h3 h4
  exact ax (k+1) _ _ ⟨AA,AA,AA,AA,AA,trivial⟩ ⟨W,AB,‹_›,(by exact Fz ‹_› ‹_› (by simp only [Dz, *]; rfl)),‹_›⟩ AB
 refine .d<|.s<|.cf<|.x 2 rfl<|.s<|.s<|.g<|.r 1<|.d<|.b 4<|T.loop (X:=Nat) 1 (fun k=>[(1,.pointer (some ⟨J,0,none⟩)),(3,vI (s.idx.names.length:Int)),(8,vI (k:Int))]) (fun k aj=>Chg (ins []) aw aj∧(1≤k)∧(k≤s.idx.names.length+1)∧(s.parts.all (fun p=>Br p s.idx.names.length)=true)∧(s.mem.all (Dz s.idx.names.length)=true)∧(((List.range s.idx.names.length).drop (k - 1)).all (EZ s)=(List.range s.idx.names.length).all (EZ s))∧(nmB s.idx.names=true)) (fun k=>s.idx.names.length+1 - k) AA ⟨AA,AA,AA,trivial⟩ ⟨Chg.refl _ _,AB,AB,‹_›,(by exact HR ‹_› AB),(by rfl),‹_›⟩ ?_
 rintro k cy aj ⟨ac,bR,bS,bT,bU,bV,bW⟩ ao
 have aD:Mv [J] [J] aw aj:=Mv.inl ac all_nil (all_cons (.inl AD) all_nil)
 replace ⟨h1,h2,h3,h4,E,C⟩:=(sp aD ac).g6 h1 h2 h3 h4 E C
 refine .s<|.s<|.g<|.r 2<|.bp ((k:Int)≤(s.idx.names.length:Int)) (fun aY=>?_) (fun aY=>.d<|.cf<|.x 4 rfl<|.s<|.g<|.r 1<|.d<|.rt Tryz.func57 Tryz.results57 (.bool true) ⟨(congrArg Value.bool (by rw [Bool.true_and]; symm; exact LD AB AB ‹_› ‹_› (Qr ‹_› AB))),C⟩)
 refine .d<|.ct<|.sk<|.s<|.b 5<|.s<|.g<|.ln E<|.r 1<|.cl (D1 s (k:Int) h1.ta h2.ta h3.ta h4.ta (SG.pt p0 ‹_›) (StoK.rw ‹_›) (by have:=p0.np; omega) (by have:=p0.nm2; omega) (w:=aj) (F:=all)) ?_
 rintro cz cA ⟨⟨cB,cC,rfl,aE⟩,aF⟩
 have aG:=al1 E.lt
 have aZ:Gb w.heap.size aj.heap.size:=C.size
 replace ⟨C,ac⟩:=(se [] aF).g2 C ac
 have aE:=aE.fr aG aZ
 have bX:=aE.max
 exact .r 1<|.bp ((((rowsOf s (k:Int)).length):Int) > 24) (fun ba=>.d<|.ct<|.s<|.g<|.r 1<|.d<|.rt Tryz.func57 Tryz.results57 (.bool false) ⟨(congrArg Value.bool (by (rw [Bool.true_and]; symm; exact LC (Tt ‹_› AB AB AB)))),C⟩) fun ba=>.d<|.cf<|.sk<|.ib 5<|.g<|.r 1<|RG.int ((k:Int)+1) AA (by have:=p0.ix.g.len; omega)<|.r 1<|.d<|ao (k+1) _ _ ⟨AA,AA,AA,trivial⟩ ⟨ac,AB,AB,‹_›,‹_›,(by exact Oj ‹_› AB AB AB),‹_›⟩ AB
end Go.Proofs.YtganlmloonielaaGreat
namespace Go.Proofs.YtganlmloonielaaGreat
def look (t:Int) (b:List Row):Option Row:=b.find? (fun r=>r.t==t)
theorem Bj (t:Int) (r:Row) (b:List Row):look t (r::b)=if r.t=t then some r else look t b:=by
 unfold look
 rw [List.find?_cons]
 by_cases h:r.t=t
 ·simp [h]
 ·have:(r.t==t)=false:=beq_eq_false_iff_ne.2 h
  rw [this,if_neg h]
theorem Mu (t:Int) (r:Row):∀ (b:List Row),look t (DA r b)=if r.t=t then some r else look t b:=by
 intro b
 induction b with
 | nil=>unfold DA; rw [Bj]
 | cons x xs ih =>
   unfold DA
   by_cases h1:r.t< x.t
   ·rw [if_pos h1,Bj]
   ·rw [if_neg h1]
    by_cases h2:r.t=x.t
    ·rw [if_pos h2,Bj,Bj]
     by_cases h:r.t=t
     ·rw [if_pos h,if_pos h]
     ·rw [if_neg h,if_neg h,if_neg AB]
    ·rw [if_neg h2,Bj,ih,Bj]
     by_cases h:r.t=t
     ·rw [if_pos h,if_neg AB,if_pos h]
     ·rw [if_neg h,if_neg h]
theorem Blk.tl {r:Row} {b:List Row} (h:Blk (r::b)):Blk b∧Bw r=true∧∀ q∈b,r.t< q.t:=by
 obtain ⟨h1,_,h3⟩:=Bi.1 h
 exact ⟨MZ h3,h1,K7 b r h3⟩
theorem Iw {t:Int}:∀ {b:List Row},(∀ q∈b,t≠q.t)→look t b=none:=by
 intro b
 induction b with
 | nil=>intro _; rfl
 | cons x xs ih =>
   intro h
   rw [Bj,if_neg (fun e=>h x (by simp) e.symm)]
   exact ih (fun q hq=>h q (by simp [hq]))
theorem Ix {t:Int} {q:Row}:∀ {b:List Row},look t b=some q→q.t=t∧q∈b:=by
 intro b h
 have h1:=List.find?_some h
 exact ⟨by simpa using h1,List.mem_of_find?_eq_some h⟩
theorem Cz (t:Int):∀ {b:List Row} (o:List Row),Blk o→Blk b→look t (Bk o b)=(look t b).or (look t o):=by
 intro b
 induction b with
 | nil=>intro o _ _; rfl
 | cons x xs ih =>
   intro o ho hb
   obtain ⟨h1,h2,h3⟩:=hb.tl
   have e:Bk o (x::xs)=Bk (Di o x) xs:=rfl
   rw [e,ih _ (ho.put h2) h1,Fi ho,Mu,Bj]
   by_cases h:x.t=t
   ·rw [if_pos h,if_pos h,Iw (fun q hq=>by have:=h3 q hq; omega)]
    rfl
   ·rw [if_neg h,if_neg h]
theorem Mw:∀ {a b:List Row},Blk a→Blk b→(∀ t,look t a=look t b)→a=b:=by
 intro a
 induction a with
 | nil =>
   intro b _ _ h
   cases b with
   | nil=>rfl
   | cons y ys =>
     have:=h y.t
     rw [Bj,if_pos rfl] at this
     cases this
 | cons x xs ih =>
   intro b ha hb h
   cases b with
   | nil =>
     have:=h x.t
     rw [Bj,if_pos rfl] at this
     cases this
   | cons y ys =>
     obtain ⟨a1,_,a3⟩:=ha.tl
     obtain ⟨b1,_,b3⟩:=hb.tl
     have hx:=h x.t
     have hy:=h y.t
     rw [Bj,if_pos rfl,Bj] at hx
     rw [Bj,Bj,if_pos rfl] at hy
     by_cases e:x.t=y.t
     ·rw [if_pos e.symm] at hx
      cases hx
      congr 1
      refine ih a1 b1 (fun t=>?_)
      have ht:=h t
      rw [Bj,Bj] at ht
      by_cases e2:x.t=t
      ·rw [Iw (fun q hq=>by have:=a3 q hq; omega),Iw (fun q hq=>by have:=b3 q hq; omega)]
      ·rw [if_neg e2,if_neg e2] at ht
       exact ht
     ·rw [if_neg (fun e2=>e e2.symm)] at hx
      rw [if_neg e] at hy
      have h1:=b3 x (Ix hx.symm).2
      have h2:=a3 y (Ix hy).2
      omega
theorem L3:∀ {b a:List Row},Blk a→Blk b→(∀ t,(look t a).isSome=true→(look t b).isSome=true)→a.length≤b.length:=by
 intro b
 induction b with
 | nil =>
   intro a _ _ h
   cases a with
   | nil=>exact Nat.le_refl _
   | cons x xs =>
     have:=h x.t (by rw [Bj,if_pos rfl]; rfl)
     cases this
 | cons y ys ih =>
   intro a ha hb h
   obtain ⟨b1,_,b3⟩:=hb.tl
   cases a with
   | nil=>simp
   | cons x xs =>
     obtain ⟨a1,_,a3⟩:=ha.tl
     have hx:=h x.t (by rw [Bj,if_pos rfl]; rfl)
     rw [Bj] at hx
     by_cases e:y.t=x.t
     ·simp only [List.length_cons]
      refine Nat.succ_le_succ (ih a1 b1 (fun t ht=>?_))
      obtain ⟨q,hq⟩:=Option.isSome_iff_exists.1 ht
      have hq2:=Ix hq
      have h4:=a3 q hq2.2
      have h5:=h t (by rw [Bj,if_neg AB]; exact ht)
      rw [Bj,if_neg AB] at h5
      exact h5
     ·rw [if_neg e] at hx
      obtain ⟨q,hq⟩:=Option.isSome_iff_exists.1 hx
      have hq2:=Ix hq
      have h4:=b3 q hq2.2
      refine Nat.le_succ_of_le (ih ha b1 (fun t ht=>?_))
      obtain ⟨u,hu⟩:=Option.isSome_iff_exists.1 ht
      have hu2:=Ix hu
      have h6:x.t≤u.t:=by
       rcases List.mem_cons.1 hu2.2 with e2 | hm
       ·rw [e2]; exact Int.le_refl _
       ·have:=a3 u hm; omega
      have h5:=h t ht
      rw [Bj,if_neg AB] at h5
      exact h5
theorem L4 {a b c:List Row} (ha:Blk a) (hb:Blk b) (hc:Blk c):Bk (Bk a b) c=Bk a (Bk b c) :=
 Mw ((ha.merge hb).merge hc) (ha.merge (hb.merge hc)) (fun t=>by
  rw [Cz t _ (ha.merge hb) hc,Cz t _ ha hb,Cz t _ ha (hb.merge hc),Cz t _ hb hc,Option.or_assoc])
theorem Q9 (id:Int):∀ (bs:List (List Row)) (i:Nat),Bp id (BY i bs).1 (BY i bs).2=if (i:Int)+1≤id then bs.getD (id - i - 1).toNat [] else []:=by
 intro bs
 induction bs with
 | nil=>intro i; simp [BY,Bp]
 | cons b bs ih =>
   intro i
   have h1:=ih (i+1)
   unfold BY
   by_cases hb:b.length > 0
   ·rw [if_pos hb]
    unfold Bp
    by_cases he:(i:Int)+1=id
    ·rw [if_pos (by simpa using he),if_pos AB,show (id - i - 1).toNat=0 by omega]
     rfl
    ·rw [if_neg (by simpa using he),h1]
     by_cases h2:(i:Int)+1≤id
     ·rw [if_pos AB,if_pos h2,show (id - i - 1).toNat=(id - (i+1:Nat) - 1).toNat+1 by omega]
      rfl
     ·rw [if_neg AB,if_neg h2]
   ·rw [if_neg hb,h1]
    have:b=[]:=List.length_eq_zero_iff.1 AB
    subst this
    by_cases h2:(i:Int)+1≤id
    ·rw [if_pos h2]
     by_cases he:(i:Int)+1=id
     ·rw [if_neg AB,show (id - i - 1).toNat=0 by omega]
      rfl
     ·rw [if_pos AB,show (id - i - 1).toNat=(id - (i+1:Nat) - 1).toNat+1 by omega]
      rfl
    ·rw [if_neg AB,if_neg h2]
theorem Mx (bs:List (List Row)) {id:Int} (h:1≤id):partOf (DI bs) id=bs.getD (id - 1).toNat []:=by
 unfold partOf DI
 have:=Q9 id bs 0
 rw [if_pos AB] at this
 rw [this,show (id - (0:Nat) - 1)=id - 1 by omega]
def ED (mem:List Smp):Sto:=⟨⟨[],[]⟩,[],mem⟩
def H6 (t id:Int) (mem:List Smp) (x:Option Row):Option Row:=mem.foldl (fun acc m=>if m.id=id∧m.row.t=t then some m.row else acc) x
theorem RA (t id:Int):∀ (mem:List Smp) (x:Option Row),H6 t id mem x=(H6 t id mem none).or x:=by
 intro mem
 induction mem with
 | nil=>intro x; rfl
 | cons m ms ih =>
   intro x
   unfold H6 at ih ⊢
   rw [List.foldl_cons,List.foldl_cons]
   by_cases h:m.id=id∧m.row.t=t
   ·rw [if_pos h,if_pos h,ih (some m.row)]
    cases List.foldl (fun acc m=>if m.id=id∧m.row.t=t then some m.row else acc) none ms <;> rfl
   ·rw [if_neg h,if_neg h,ih x]
theorem D3 (t id:Int):∀ (mem:List Smp) (o:List Row),(∀ m∈mem,Bw m.row=true)→Blk o→look t (mem.foldl (Cg id) o)=H6 t id mem (look t o)∧Blk (mem.foldl (Cg id) o):=by
 intro mem
 induction mem with
 | nil=>intro o _ ho; exact ⟨rfl,ho⟩
 | cons m ms ih =>
   intro o h ho
   have h1:Blk (Cg id o m):=by
    unfold Cg
    split
    ·exact ho.put (h m (by simp))
    ·exact ho
   obtain ⟨h2,h3⟩:=ih (Cg id o m) (fun q hq=>h q (by simp [hq])) h1
   refine ⟨?_,h3⟩
   rw [List.foldl_cons,h2]
   unfold H6
   rw [List.foldl_cons]
   congr 1
   by_cases hid:m.id=id
   ·rw [LG hid ho,Mu]
    by_cases ht:m.row.t=t
    ·rw [if_pos ht,if_pos ⟨hid,ht⟩]
    ·rw [if_neg ht,if_neg (fun e=>ht e.2)]
   ·rw [KJ hid,if_neg (fun e=>hid e.1)]
theorem mem_merge {id:Int} {mem:List Smp} {o:List Row} (h:∀ m∈mem,Bw m.row=true) (ho:Blk o):mem.foldl (Cg id) o=Bk o (rowsOf (ED mem) id):=by
 have a:=fun t=>(D3 t id mem o h ho).1
 have b:=fun t=>(D3 t id mem [] h Blk.nil).1
 have bb:Blk (rowsOf (ED mem) id):=(D3 0 id mem [] h Blk.nil).2
 refine Mw (D3 0 id mem o h ho).2 (ho.merge bb) (fun t=>?_)
 rw [a,Cz t _ ho bb]
 have e:look t (rowsOf (ED mem) id)=H6 t id mem none:=b t
 rw [e,← RA]
theorem Fm {id:Int}:∀ {ps:List Prt} {o:List Row},(∀ p∈ps,PrtI p)→Blk o→Blk (ps.foldl (CZ id) o):=by
 intro ps
 induction ps with
 | nil=>intro o _ ho; exact ho
 | cons p ps ih=>intro o hp ho; exact ih (fun q hq=>hp q (by simp [hq])) (ho.merge ((hp p (by simp)).of id))
theorem Oo {s:Sto} (h:StoK s) (id t:Int):((look t (s.parts.foldl (CZ id) [])).isSome=true∨(look t (rowsOf (ED s.mem) id)).isSome=true)→(look t (rowsOf s id)).isSome=true:=by
 intro h1
 have hb:Blk (s.parts.foldl (CZ id) []):=Fm h.sd.part Blk.nil
 have bb:Blk (rowsOf (ED s.mem) id):=(D3 0 id s.mem [] h.row Blk.nil).2
 have e:rowsOf s id=Bk (s.parts.foldl (CZ id) []) (rowsOf (ED s.mem) id):=mem_merge h.row hb
 rw [e,Cz t _ hb bb]
 rcases h1 with h1 | h1
 ·cases look t (rowsOf (ED s.mem) id) with
  | none=>exact h1
  | some q=>rfl
 ·obtain ⟨q,hq⟩:=Option.isSome_iff_exists.1 h1
  rw [hq]; rfl
theorem RB:∀ (bs:List (List Row)) (i:Nat) (o:Option Int),(∀ b∈bs,Blk b∧b.length≤24)→i+bs.length≤6→(∀ q,o=some q→q≤i)→Bl o (BY i bs).1 (BY i bs).2=true:=by
 intro bs
 induction bs with
 | nil=>intro i o _ _ _; rfl
 | cons b bs ih =>
   intro i o h hl ho
   simp only [List.length_cons] at hl
   unfold BY
   by_cases hb:b.length > 0
   ·rw [if_pos hb]
    unfold Bl
    have h1:=ih (i+1) (some ((i:Int)+1)) (fun x hx=>h x (by simp [hx])) AB (fun q hq=>by cases hq; omega)
    obtain ⟨h2,h3⟩:=h b (by simp)
    have h4:BE b=true:=by
     unfold BE
     have h2':CG none b=true:=h2
     rw [h2',Bool.true_and,decide_eq_true_eq]; exact h3
    rw [h1,h4,decide_eq_true hb]
    have h5:inR ((i:Int)+1) 1 6=true:=by unfold inR; simp; omega
    rw [h5]
    cases o with
    | none=>rfl
    | some q =>
      have:=ho q rfl
      simp
      omega
   ·rw [if_neg hb]
    exact ih (i+1) o (fun x hx=>h x (by simp [hx])) AB (fun q hq=>by have:=ho q hq; omega)
theorem My {bs:List (List Row)} (h:∀ b∈bs,Blk b∧b.length≤24) (hl:bs.length≤6):Au (DI bs)=true:=by
 unfold Au
 have h1:=(K9 bs 0).1
 have h2:=RB bs 0 none h AB (by simp)
 have h3:Bl none (DI bs).ids (DI bs).blocks=true:=h2
 have h4:(DI bs).ids.length=(DI bs).blocks.length:=h1
 rw [h3,decide_eq_true h4]
 rfl
theorem Pf:∀ (bs:List (List Row)) (i:Nat) (x:Int),x∈(BY i bs).1→∃ k:Nat,x=(i:Int)+k+1∧∃ b,bs[k]? = some b∧0< b.length:=by
 intro bs
 induction bs with
 | nil=>intro i x h; simp [BY] at h
 | cons b bs ih =>
   intro i x h
   unfold BY at h
   by_cases hb:b.length > 0
   ·rw [if_pos hb] at h
    rcases List.mem_cons.1 h with rfl | h
    ·exact ⟨0,by simp,b,rfl,hb⟩
    ·obtain ⟨k,h1,c,h2,h3⟩:=ih (i+1) x h
     exact ⟨k+1,by rw [h1]; push_cast; omega,c,by simpa using h2,h3⟩
   ·rw [if_neg hb] at h
    obtain ⟨k,h1,c,h2,h3⟩:=ih (i+1) x h
    exact ⟨k+1,by rw [h1]; push_cast; omega,c,by simpa using h2,h3⟩
theorem Nx:∀ (bs:List (List Row)) (i:Nat),(∃ b∈bs,0< b.length)→(BY i bs).1≠[]:=by
 intro bs
 induction bs with
 | nil=>rintro i ⟨b,hb,_⟩; cases hb
 | cons c bs ih =>
   rintro i ⟨b,hb,hl⟩
   unfold BY
   by_cases hc:c.length > 0
   ·rw [if_pos hc]; simp
   ·rw [if_neg hc]
    rcases List.mem_cons.1 hb with rfl | hb
    ·exact absurd hl hc
    ·exact ih (i+1) ⟨b,hb,hl⟩
theorem Mz {bs:List (List Row)} {n:Nat} (h:∀ b∈bs,Blk b∧b.length≤24) (hl:bs.length≤6) (h1:∃ b∈bs,0< b.length) (h2:∀ k b,bs[k]? = some b→0< b.length→k< n):Br (DI bs) n=true:=by
 unfold Br
 rw [My h hl,Bool.true_and]
 cases hx:(DI bs).ids.getLast? with
 | none=>exact absurd (List.getLast?_eq_none_iff.1 hx) (Nx bs 0 h1)
 | some x =>
   obtain ⟨k,e,b,hb,hb2⟩:=Pf bs 0 x (List.mem_of_getLast? hx)
   have:=h2 k b hb hb2
   simp
   omega
theorem L5 {s:Sto} (h:Ak s=true):s.parts.length≤6:=by
 unfold Ak at h
 simp only [AR,decide_eq_true_eq] at h
 exact h.1.1.1.1
end Go.Proofs.YtganlmloonielaaGreat
