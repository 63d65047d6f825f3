/- Marks are put into memory that is shared with nothing: rules. No conditions. -/
import Derived.Test.YtcginoabkicdiaaGreatDzzMod90
import Derived.Test.YtcginoabkicdiaaGreatDzzDp
set_option linter.unusedVariables false
set_option linter.unusedSimpArgs false
namespace Go.Proofs.YtcginoabkicdiaaGreat
theorem JI {w:World}:∀ {l m r:List It}{X:Nat→Prop},BK w X (l++(m++r)) →
 ∃ D:Nat→Prop,BK w D m∧(∀ b,D b→X b)∧∀ w' m',Chg D w w'→BK w' D m'→BK w' X (l++(m'++r))
 | [], m, r, X, h => by
   obtain ⟨D,D',g1,g2,g3,g4⟩:=Ll (l:=m) h
   refine ⟨D,g1,fun b hb=>(g3 b hb).1,fun w' m' hx hm=>?_⟩
   exact Hr (l:=m') hm (Cj g2 fun b hb hd=>⟨hd,hx.block b hb fun h=>(g3 b h).2 hd⟩) (fun b hb=>(g3 b hb).2) (fun b hb=>(g3 b hb).1) g4
 | it :: l, m, r, X, ⟨A, B, g1, g2, g3, g4⟩ => by
   obtain ⟨D,e1,e2,e3⟩:=JI (l:=l) (m:=m) (r:=r) g2
   refine ⟨D,e1,fun b hb=>g4 b (e2 b hb),fun w' m' hx hm=>?_⟩
   exact ⟨A,B,It.fr g1 fun b hb hd=>⟨hd,hx.block b hb fun h=>(g3 b hd).2 (e2 b h)⟩,e3 w' m' hx hm,g3,g4⟩
section
variable {α:Type} [Rep α] [Shp α] [Dp α] [Lf α]
structure DE (w:World) (D:Nat→Prop) (a:Option Addr) (n c:Nat) (xs:List α) (i:Nat) (x:α) (l:List (Option Addr × Nat)):Prop where
 hl:l.length=Shp.k α
 len:n=xs.length
 le:n≤c
 cap:c≤maxLen
 it:i< n
 addr:a=some ⟨blk a,off a,none⟩
 inD:D (blk a)
 row:∃ cur t,w.heap[blk a]? = some (.cells cur t (0,0))
 el:∃ E:Nat→Nat→Prop,(∀ i j b,E i b→E j b→i=j)∧(∀ i b,E i b→D b∧b≠blk a) ∧
  (∀ j y,j≠i→xs[j]? = some y→∃ cs,Dp.dp w (E j) y cs∧Has w ⟨blk a,off a+j * Rep.sz α,none⟩ cs) ∧
  BK w (E i) (Lf.its x l)∧Has w ⟨blk a,off a+i * Rep.sz α,none⟩ (Shp.cells x l)
variable {w w':World} {D:Nat→Prop} {a:Option Addr} {n c i:Nat} {xs:List α} {x y:α} {l:List (Option Addr × Nat)}
theorem DpS.hole {Q:Prop}(h:DpS w D a n c xs) (hx:xs[i]? = some x) (H:Fa (Shp.k α) fun l=>DE w D a n c xs i x l→Q):Q:=by
 obtain ⟨E,h1,h2,h3⟩:=h.el
 obtain ⟨cs,g1,g2⟩:=h3 i x hx
 obtain ⟨l,hl,rfl,g3⟩:=Lf.un g1
 have hi:i< n:=by rw [h.len]; exact (List.getElem?_eq_some_iff.1 hx).1
 have h0:0< n:=by omega
 exact Fe _ H hl ⟨hl,h.len,h.le,h.cap,hi,h.addr h0,h.inD h0,h.row h0,E,h1,h2,fun j y _ hy=>h3 j y hy,g3,g2⟩
theorem DE.dps (h:DE w D a n c xs i x l):DpS w D a n c (xs.set i x):=by
 obtain ⟨E,h1,h2,h3,h4,h5⟩:=h.el
 refine ⟨by rw [List.length_set]; exact h.len,h.le,h.cap,fun _=>h.addr,fun _=>h.inD,fun _=>h.row,E,h1,h2,fun j y hy=>?_⟩
 by_cases hj:j=i
 ·subst hj
  rw [List.getElem?_set_self (by have:=h.it; have:=h.len; omega)] at hy
  cases hy
  exact ⟨_,Lf.mk_ l h.hl h4,h5⟩
 ·rw [List.getElem?_set_ne (fun e=>hj e.symm)] at hy
  exact h3 j y hj hy
theorem DE.lt (h:DE w D a n c xs i x l):blk a< w.heap.size:=by
 obtain ⟨cur,t,h1⟩:=h.row
 exact (Array.getElem?_eq_some_iff.1 h1).1
theorem DE.has (h:DE w D a n c xs i x l):Has w ⟨blk a,off a+i * Rep.sz α,none⟩ (Shp.cells x l):=by
 obtain ⟨E,_,_,_,_,h5⟩:=h.el
 exact h5
theorem Has.same {b o:Nat}{cs:List Value}(h:Has w ⟨b,o,none⟩ cs) (hb:w'.heap[b]? = w.heap[b]?):Has w' ⟨b,o,none⟩ cs:=fun i u hu=>by
 have h1:=h i u hu
 rw [add_lit] at h1 ⊢
 rw [← h1]
 exact World.cell?_of_block hb
theorem DE.ext (h:DE w D a n c xs i x l) (hx:Ext w w'):DE w' D a n c xs i x l:=by
 obtain ⟨E,h1,h2,h3,h4,h5⟩:=h.el
 have hb:∀ b,b< w.heap.size→w'.heap[b]? = w.heap[b]? := fun b hb=>hx.block hb
 refine ⟨h.hl,h.len,h.le,h.cap,h.it,h.addr,h.inD,?_,fun i b=>E i b∧b< w.heap.size,fun i j b p q=>h1 i j b p.1 q.1,fun i b p=>h2 i b p.1,fun j y hj hy=>?_,Cj h4 fun b hl hd=>⟨⟨hd,hl⟩,hb b hl⟩,h5.same (hb _ h.lt)⟩
 ·obtain ⟨cur,t,g⟩:=h.row
  exact ⟨cur,t,by rw [hb _ h.lt]; exact g⟩
 ·obtain ⟨cs,g1,g2⟩:=h3 j y hj hy
  exact ⟨cs,Dp.fr g1 fun b hl hd=>⟨⟨hd,hl⟩,hb b hl⟩,g2.same (hb _ h.lt)⟩
theorem V7 {cs:List Value}{o:Nat}{v:Value}(h:o< cs.length):Ay cs o [v]=cs.set o v:=by
 unfold Ay
 rw [List.set_eq_take_append_cons_drop,if_pos h]
 simp
theorem Box.cell {b o:Nat}{t:TypeId}{cs:List Value}(h:Box w b t cs):w.cell? ⟨b,o,none⟩=cs[o]? := by
 unfold Box at h
 simp [World.cell?,h]
theorem DE.store {P:Program}{t:TypeId}{v:Value}(h:DE w D a n c xs i x l) (j:Nat) (y:α) (hv:v.cells.toList=[v]) (hs:Da P t 1=true) (h1:Cy v=true) (hj:Nat.blt j (Shp.cells x l).length=true)
 (hc:Shp.cells y l=(Shp.cells x l).set j v) (hi:Lf.its y l=Lf.its x l) :
 ∃ w',(storeVar t ⟨blk a,off a+i * Rep.sz α+j,none⟩ v).run P w=.ok () w'∧DE w' D a n c xs i y l∧Chg D w w':=by
 obtain ⟨cur,tt,hcur⟩:=h.row
 obtain ⟨E,e1,e2,e3,e4,e5⟩:=h.el
 have hjl:j< (Shp.cells x l).length:=by have:=Nat.le_of_ble_eq_true hj; omega
 have hbox:Box w (blk a) tt cur.toList:=by unfold Box; rw [hcur]
 have hsz:v.cells.size=1:=by rw [← Array.length_toList,hv]; rfl
 have hcell:=e5 j _ (AU hjl)
 rw [add_lit,hbox.cell] at hcell
 have hlt:=(List.getElem?_eq_some_iff.1 hcell).1
 obtain ⟨w',hr,hb',hx,hss⟩:=hbox.store (P:=P) (t':=t) (o:=off a+i * Rep.sz α+j) (v:=v) (by rw [hsz]; exact hs) AB (by rw [hv]; simp [h1])
 rw [hv,V7 hlt] at hb'
 have hoth:∀ b,b≠blk a→b< w.heap.size→w'.heap[b]? = w.heap[b]? := fun b hb hbl=>hx.block b hbl hb
 have hcl:(Shp.cells x l).length=Rep.sz α:=Rep.len (Dp.rp (Lf.mk_ l h.hl e4))
 have hother:∀ q,q≠off a+i * Rep.sz α+j→w'.cell? ⟨blk a,q,none⟩=w.cell? ⟨blk a,q,none⟩:=fun q hq=>by
  rw [hb'.cell,hbox.cell,List.getElem?_set_ne (fun e=>hq e.symm)]
 refine ⟨w',hr,⟨h.hl,h.len,h.le,h.cap,h.it,h.addr,h.inD,⟨_,tt,hb'⟩,fun k b=>E k b∧b< w.heap.size,fun i j b p q=>e1 i j b p.1 q.1,fun i b p=>e2 i b p.1,fun k z hk hz=>?_,?_,?_⟩,hx.Bj fun b _ hb=>by cases hb; exact h.inD⟩
 ·obtain ⟨cs,g1,g2⟩:=e3 k z hk hz
  refine ⟨cs,Dp.fr g1 fun b hl hd=>⟨⟨hd,hl⟩,hoth b (e2 k b hd).2 hl⟩,fun u v hu=>?_⟩
  have g3:=g2 u v hu
  have hul:u< Rep.sz α:=by rw [← Rep.len (Dp.rp g1)]; exact (List.getElem?_eq_some_iff.1 hu).1
  rw [add_lit] at g3 ⊢
  rw [hother _ ?_]; exact g3
  intro e
  rcases Nat.lt_or_gt_of_ne hk with h' | h'
  ·have h2:(k+1) * Rep.sz α≤i * Rep.sz α:=Nat.mul_le_mul_right _ h'
   rw [Nat.succ_mul] at h2
   omega
  ·have h2:(i+1) * Rep.sz α≤k * Rep.sz α:=Nat.mul_le_mul_right _ h'
   rw [Nat.succ_mul] at h2
   omega
 ·rw [hi]
  exact Cj e4 fun b hl hd=>⟨⟨hd,hl⟩,hoth b (e2 i b hd).2 hl⟩
 ·intro u z hu
  rw [hc] at hu
  rw [add_lit]
  by_cases huj:u=j
  ·subst huj
   rw [List.getElem?_set_self hjl] at hu
   cases hu
   rw [hb'.cell,List.getElem?_set_self hlt]
  ·rw [List.getElem?_set_ne (fun e=>huj e.symm)] at hu
   have g3:=e5 u z hu
   rw [add_lit] at g3
   rw [hother _ AB]; exact g3
theorem DE.part {l1 m r:List It}(h:DE w D a n c xs i x l) (hi:Lf.its x l=l1++(m++r)) :
 ∃ A:Nat→Prop,BK w A m∧(∀ b,A b→D b)∧∀ w' m' y,Chg A w w'→BK w' A m'→Lf.its y l=l1++(m'++r)→Shp.cells y l=Shp.cells x l→DE w' D a n c xs i y l:=by
 obtain ⟨E,e1,e2,e3,e4,e5⟩:=h.el
 rw [hi] at e4
 obtain ⟨A,g1,g2,g3⟩:=JI e4
 refine ⟨A,g1,fun b hb=>(e2 i b (g2 b hb)).1,fun w' m' y hx hm he hc=>?_⟩
 have hoth:∀ b,¬ E i b→b< w.heap.size→w'.heap[b]? = w.heap[b]? := fun b hb hbl=>hx.block b hbl fun h=>hb (g2 b h)
 have hbl:w'.heap[blk a]? = w.heap[blk a]? := hoth _ (fun hb=>(e2 i _ hb).2 rfl) h.lt
 refine ⟨h.hl,h.len,h.le,h.cap,h.it,h.addr,h.inD,?_,E,e1,e2,fun j z hj hz=>?_,by rw [he]; exact g3 w' m' hx hm,by rw [hc]; exact e5.same hbl⟩
 ·obtain ⟨cur,t,g⟩:=h.row
  exact ⟨cur,t,by rw [hbl]; exact g⟩
 ·obtain ⟨cs,f1,f2⟩:=e3 j z hj hz
  exact ⟨cs,Dp.fr f1 fun b hl hd=>⟨hd,hoth b (fun hb=>hj (e1 j i b hd hb)) hl⟩,f2.same hbl⟩
end
section
variable {α:Type} {M:α→Int→Prop} {z:α→Int}
theorem Tp:∀ {l:List α}{y:α}{k:Int},lsM M z l k→M y (k+lsZ z l)→lsM M z (l++[y]) k
 | [], y, k, _, h => ⟨by have e : k + lsZ z ([] : List α) = k := by show k + 0 = k; omega
                         rw [e] at h; exact h,trivial⟩
 | x::l,y,k,⟨h1,h2⟩,h=>⟨h1,Tp h2 (by rw [show k+z x+lsZ z l=k+lsZ z (x::l) by show _=k+(z x+lsZ z l); omega]; exact h)⟩
theorem L5:∀ {l r:List α},lsZ z (l++r)=lsZ z l+lsZ z r
 | [],r=>by show lsZ z r=0+lsZ z r; omega
 | x::l,r=>by show z x+lsZ z (l++r)=z x+lsZ z l+lsZ z r; rw [L5]; omega
theorem Tq {y:α}:lsZ z [y]=z y:=by show z y+0=z y; omega
end
section
variable {α:Type} [Rep α] [Dp α]
structure MkI (M:α→Int→Prop) (z:α→Int) (w0:World) (D:Nat→Prop) (a:Option Addr) (c:Nat) (xs:List α) (k:Int) (i:Nat) (k1:Int) (ys:List α) (w:World):Prop where
 dp:DpS w D a xs.length c ys
 ch:Chg D w0 w
 le:i≤xs.length
 e:k1=k+lsZ z (xs.take i)
 m:lsM M z (ys.take i) k
 q:lsZ z (ys.take i)=lsZ z (xs.take i)
 r:ys.drop i=xs.drop i
variable {M:α→Int→Prop} {z:α→Int} {w0 w w':World} {D:Nat→Prop} {a:Option Addr} {c i:Nat} {xs ys:List α} {k k1:Int} {x y:α} {l:List (Option Addr × Nat)}
theorem MkI.init (h:DpS w D a xs.length c xs):MkI M z w D a c xs k 0 k xs w:=⟨h,Chg.refl _ _,Nat.zero_le _,by show k=k+0; omega,trivial,rfl,rfl⟩
theorem MkI.at (h:MkI M z w0 D a c xs k i k1 ys w) (hi:i< xs.length):∃ x,ys[i]? = some x∧xs.take (i+1)=xs.take i++[x]∧xs.drop i=x::xs.drop (i+1):=by
 have h1:xs.drop i=xs[i]::xs.drop (i+1):=List.drop_eq_getElem_cons hi
 have h2:=h.r
 refine ⟨xs[i],?_,by simp,h1⟩
 have:(ys.drop i)[0]? = some xs[i]:=by rw [h2,h1]; rfl
 simpa [List.getElem?_drop] using this
theorem MkI.bd (h:MkI M z w0 D a c xs k i k1 ys w) (hz:∀ x,0≤z x) (hd:xs.drop i=x::xs.drop (i+1)):k≤k1∧0≤z x∧k1+z x≤k+lsZ z xs:=by
 have h1:lsZ z xs=lsZ z (xs.take i)+lsZ z (xs.drop i):=by rw [← L5,List.take_append_drop]
 have h2:lsZ z (xs.drop i)=z x+lsZ z (xs.drop (i+1)):=by rw [hd]; rfl
 have h3:=Ac hz (xs.take i)
 have h4:=Ac hz (xs.drop (i+1))
 have h5:=h.e
 have h6:=hz x
 omega
theorem MkI.step [Shp α] [Lf α] (h:MkI M z w0 D a c xs k i k1 ys w) (hd:xs.drop i=x::xs.drop (i+1)) (hE:DE w' D a xs.length c ys i y l) (hx:Chg D w w') (hm:M y k1) (hz:z y=z x){k2:Int}(hk:k2=k1+z x):MkI M z w0 D a c xs k (i+1) k2 (ys.set i y) w':=by
 subst hk
 have hi:i< xs.length:=hE.it
 have hiy:i< ys.length:=by have:=h.dp.len; omega
 have ht:xs.take (i+1)=xs.take i++[x]:=by
  have h1:xs.drop i=xs[i]::xs.drop (i+1):=List.drop_eq_getElem_cons hi
  rw [h1] at hd
  have h2:xs[i]=x:=by injection hd
  rw [← h2]; simp
 have hty:(ys.set i y).take (i+1)=ys.take i++[y]:=by
  rw [List.set_eq_take_append_cons_drop,if_pos hiy]
  have hl:(ys.take i).length=i:=by simp; omega
  rw [List.take_append,hl,List.take_of_length_le AB]
  simp [show i+1 - i=1 by omega]
 refine ⟨hE.dps,h.ch.trans hx,hi,?_,?_,?_,?_⟩
 ·rw [ht,L5,Tq,h.e]; omega
 ·rw [hty]; exact Tp h.m (by rw [h.q,← h.e]; exact hm)
 ·rw [hty,ht,L5,L5,h.q,Tq,Tq,hz]
 ·rw [List.drop_set_of_lt AB,← List.drop_drop,h.r,List.drop_drop]
theorem MkI.end_ (h:MkI M z w0 D a c xs k i k1 ys w) (hi:¬ i< xs.length):k1=k+lsZ z xs∧Chg D w0 w∧∃ ys,DpS w D a xs.length c ys∧lsM M z ys k∧lsZ z ys=lsZ z xs:=by
 have hl:i=xs.length:=by have:=h.le; omega
 have hly:ys.length=i:=by have:=h.dp.len; omega
 have e1:xs.take i=xs:=by rw [hl]; exact List.take_length
 have e2:ys.take i=ys:=by rw [← hly]; exact List.take_length
 have h1:=h.e
 have h2:=h.m
 have h3:=h.q
 rw [e1] at h1 h3
 rw [e2] at h2 h3
 exact ⟨h1,h.ch,ys,h.dp,h2,h3⟩
end
def MkL (P:Program) (f:FuncId){α:Type}[Rep α] [Dp α] (M:α→Int→Prop) (z:α→Int):Prop :=
 ∀ {w : World} {D : Nat → Prop} {a : Option Addr} {c : Nat} {xs : List α} {k : Int}, DpS w D a xs.length c xs → 1 ≤ k → k + lsZ z xs ≤ 4611686018427387904 →
   Calls P f [.slice a xs.length c,vI k].toArray w (Af fun rv w'=>rv=vI (k+lsZ z xs)∧Chg D w w'∧∃ ys,DpS w' D a xs.length c ys∧lsM M z ys k∧lsZ z ys=lsZ z xs)
def MkV (P:Program) (f:FuncId){α:Type}[Rep α] [Shp α] [Dp α] [Lf α] (M:α→Int→Prop) (z:α→Int):Prop :=
 ∀ {w : World} {D : Nat → Prop} {x : α} {l : List (Option Addr × Nat)} {k : Int}, l.length = Shp.k α → BK w D (Lf.its x l) → 1 ≤ k → k + z x ≤ 4611686018427387904 →
   Calls P f [.agg (Shp.cells x l).toArray,vI k].toArray w (Af fun rv w'=>rv=vI (k+z x)∧Chg D w w'∧∃ y,BK w' D (Lf.its y l)∧Shp.cells y l=Shp.cells x l∧M y k∧z y=z x)
section
variable {P:Program} {n:Nat} {K:Env→World→Prop} {ops:Array Oper} {j:Nat} {e:Env} {w w0:World} {α:Type} [Rep α] [Shp α] [Dp α] [Lf α]
variable {D:Nat→Prop} {a:Option Addr} {m c i:Nat} {xs:List α} {x:α} {l:List (Option Addr × Nat)}
theorem RG.mi (h:DE w D a m c xs i x l) (H:RG P n K ops (j+1) (Ag e (Ad ops j).dst (.pointer (some ⟨blk a,off a+i * Rep.sz α,none⟩))) w) (hi:I0 P n ops j e=some (a,m,(i:Int),Rep.sz α):=by kernel_rfl):RG P n K ops j e w :=
 RG.idx i hi rfl h.it h.addr H
theorem RG.ms (h:DE w D a m c xs i x l) (q:Nat) (v:Value) (y:α) (H:∀ w',DE w' D a m c xs i y l→Chg D w w'→RG P n K ops (j+1) (Ag e (Ad ops j).dst undef) w')
 (hv:v.cells.toList=[v]:=by kernel_rfl) (h1:Cy v=true:=by kernel_rfl) (hs:Da P (stT (storeAt n ops j e)) 1=true:=by kernel_rfl) (hj:Nat.blt q (Shp.cells x l).length=true:=by kernel_rfl)
 (hc:Shp.cells y l=(Shp.cells x l).set q v:=by kernel_rfl) (hi:Lf.its y l=Lf.its x l:=by kernel_rfl)
 (hst:storeAt n ops j e=some (stT (storeAt n ops j e),⟨blk a,off a+i * Rep.sz α+q,none⟩,v):=by kernel_rfl):RG P n K ops j e w :=
 let ⟨w',hr,h2,h3⟩:=h.store (P:=P) q y hv hs h1 hj hc hi
 RG.store hst hr (H w' h2 h3)
theorem RG.ml (h:DE w D a m c xs i x l) (k:Nat) (H:RG P n K ops (j+1) (Ag e (Ad ops j).dst (((Shp.cells x l)[k]?).getD undef)) w)
 (hl:loadAt n ops j e=some (ldT (loadAt n ops j e),⟨blk a,off a+i * Rep.sz α+k,none⟩):=by kernel_rfl)
 (hs:Bp P (ldT (loadAt n ops j e))=true:=by kernel_rfl) (hv:(Shp.cells x l)[k]? = some (((Shp.cells x l)[k]?).getD undef):=by kernel_rfl):RG P n K ops j e w :=
 RG.lh k h.has H hl hs hv
theorem RG.mc {β:Type}[Rep β] [Dp β] {f:FuncId}{M:β→Int→Prop}{z:β→Int}(h:DE w D a m c xs i x l) (hf:MkL P f M z) (l1 r:List It) (b:Option Addr) (d:Nat) (us:List β) (k:Int) (st:List β→α)
 (hk:1≤k) (hb:k+lsZ z us≤4611686018427387904)
 (H:∀ w' vs,DE w' D a m c xs i (st vs) l→Chg D w w'→lsM M z vs k→lsZ z vs=lsZ z us→RG P n K ops (j+1) (Ag e (Ad ops j).dst (vI (k+lsZ z us))) w')
 (hi:Lf.its x l=l1++([It.s b d us]++r):=by kernel_rfl) (hn:∀ vs,Lf.its (st vs) l=l1++([It.s b d vs]++r):=by intro _; kernel_rfl)
 (hc:∀ vs,vs.length=us.length→Shp.cells (st vs) l=Shp.cells x l) (hcall:Bf P n ops j e=some (f,[.slice b us.length d,vI k]):=by kernel_rfl):RG P n K ops j e w:=by
 obtain ⟨A,g1,g2,g3⟩:=h.part hi
 have g4:DpS w A b us.length d us:=Eu g1 AI
 refine RG.cl (hf g4 hk hb) (fun v w' ⟨h1,h2,vs,h3,h4,h5⟩=>?_) hcall
 subst h1
 have hl:vs.length=us.length:=h3.len.symm
 exact H w' vs (g3 w' [.s b d vs] (st vs) h2 (Qm (by show DpS _ _ _ _ _ _; rw [hl]; exact h3)) (hn vs) (hc vs hl)) (h2.Bj fun b _ hb=>g2 b hb) h4 h5
theorem RG.mt {f:FuncId}{args:List Value}{v:Value}(h:DE w D a m c xs i x l) (hf:Calls P f args.toArray w (Af fun rv w'=>rv=v∧Ext w w'))
 (H:∀ w',DE w' D a m c xs i x l→Chg D w w'→RG P n K ops (j+1) (Ag e (Ad ops j).dst v) w') (hcall:Bf P n ops j e=some (f,args):=by kernel_rfl):RG P n K ops j e w :=
 RG.cl hf (fun v w' ⟨h1,h2⟩=>h1▸H w' (h.ext h2) h2.chg) hcall
end
section
variable {α:Type} [Rep α] [Shp α] [Dp α] [Lf α]
structure MV (w0:World) (D:Nat→Prop) (b t:Nat) (cs:List Value) (x:α) (l:List (Option Addr × Nat)) (w:World):Prop where
 its:BK w (fun q=>D q∧q≠b) (Lf.its x l)
 ch:Chg (fun q=>D q∨w0.heap.size≤q) w0 w
 bx:Box w b t cs
 nb:w0.heap.size≤b
variable {P:Program} {n:Nat} {K:Env→World→Prop} {ops:Array Oper} {j:Nat} {e:Env} {w w0 w':World} {D:Nat→Prop} {x y:α} {l:List (Option Addr × Nat)} {b t:Nat} {cs:List Value}
theorem MV.init (h:BK w D (Lf.its x l)) (hx:Ext w w') (hb:b=w.heap.size) (hB:Box w' b t cs):MV w D b t cs x l w' :=
 ⟨Cj h fun q hq hd=>⟨⟨hd,by omega⟩,hx.block hq⟩,hx.chg,hB,by omega⟩
theorem MV.st (h:MV w0 D b t cs x l w) (hx:Chg (one b) w w'){cs':List Value}(hB:Box w' b t cs'):MV w0 D b t cs' x l w' :=
 ⟨Cj h.its fun q hq hd=>⟨hd,hx.block q hq hd.2⟩,h.ch.trans (hx.Bj fun q _ hq=>by cases hq; exact .inr h.nb),hB,h.nb⟩
theorem MV.xt (h:MV w0 D b t cs x l w):Chg D w0 w∧BK w D (Lf.its x l):=⟨h.ch.Bj fun q hq hd=>hd.elim id fun h=>by omega,CU h.its fun q _ hq=>hq.1⟩
theorem RG.vLs {β:Type}[Rep β] [Dp β] {f:FuncId}{M:β→Int→Prop}{z:β→Int}(h:MV w0 D b t cs x l w) (hf:MkL P f M z) (l1 r:List It) (a:Option Addr) (c:Nat) (us:List β) (k:Int) (st:List β→α)
 (hk:1≤k) (hb:k+lsZ z us≤4611686018427387904)
 (H:∀ w' vs,MV w0 D b t cs (st vs) l w'→vs.length=us.length→lsM M z vs k→lsZ z vs=lsZ z us→RG P n K ops (j+1) (Ag e (Ad ops j).dst (vI (k+lsZ z us))) w')
 (hi:Lf.its x l=l1++([It.s a c us]++r):=by kernel_rfl) (hn:∀ vs,Lf.its (st vs) l=l1++([It.s a c vs]++r):=by intro _; kernel_rfl)
 (hcall:Bf P n ops j e=some (f,[.slice a us.length c,vI k]):=by kernel_rfl):RG P n K ops j e w:=by
 have h1:=h.its
 rw [hi] at h1
 obtain ⟨A,g1,g2,g3⟩:=JI h1
 have g4:DpS w A a us.length c us:=Eu g1 AI
 refine RG.cl (hf g4 hk hb) (fun v w' ⟨e0,e2,vs,e3,e4,e5⟩=>?_) hcall
 subst e0
 have hl:vs.length=us.length:=e3.len.symm
 refine H w' vs ⟨?_,h.ch.trans (e2.Bj fun q _ hq=>.inl (g2 q hq).1),h.bx.chg e2 fun hb=>(g2 b hb).2 rfl,h.nb⟩ hl e4 e5
 rw [hn vs]
 exact g3 w' [.s a c vs] e2 (Qm (by show DpS _ _ _ _ _ _; rw [hl]; exact e3))
theorem RG.vV {β:Type}[Rep β] [Shp β] [Dp β] [Lf β] {f:FuncId}{M:β→Int→Prop}{z:β→Int}(h:MV w0 D b t cs x l w) (hf:MkV P f M z) (l1 r:List It) (u:β) (lu:List (Option Addr × Nat)) (k:Int) (st:β→α)
 (hlu:lu.length=Shp.k β) (hk:1≤k) (hb:k+z u≤4611686018427387904)
 (H:∀ w' v,MV w0 D b t cs (st v) l w'→Shp.cells v lu=Shp.cells u lu→M v k→z v=z u→RG P n K ops (j+1) (Ag e (Ad ops j).dst (vI (k+z u))) w')
 (hi:Lf.its x l=l1++(Lf.its u lu++r):=by kernel_rfl) (hn:∀ v,Lf.its (st v) l=l1++(Lf.its v lu++r):=by intro _; kernel_rfl)
 (hcall:Bf P n ops j e=some (f,[.agg (Shp.cells u lu).toArray,vI k]):=by kernel_rfl):RG P n K ops j e w:=by
 have h1:=h.its
 rw [hi] at h1
 obtain ⟨A,g1,g2,g3⟩:=JI h1
 refine RG.cl (hf hlu g1 hk hb) (fun v w' ⟨e0,e2,y,e3,e4,e5,e6⟩=>?_) hcall
 subst e0
 refine H w' y ⟨?_,h.ch.trans (e2.Bj fun q _ hq=>.inl (g2 q hq).1),h.bx.chg e2 fun hb=>(g2 b hb).2 rfl,h.nb⟩ e4 e5 e6
 rw [hn y]
 exact g3 w' (Lf.its y lu) e2 e3
end
section
variable {P:Program} {f:FuncId} {fn:Func} {R:Value→World→Prop} {c:Code} {kk:List Item} {e:Env} {w w0:World} {α:Type} [Rep α] [Dp α]
variable {M:α→Int→Prop} {z:α→Int} {D:Nat→Prop} {a:Option Addr} {cc:Nat} {xs ys:List α} {k:Int}
def mS (a:Option Addr) (n cc:Nat) (i:Nat) (k1:Int):List (Nat × Value):=[(0,.slice a n cc),(1,vI k1),(5,vI (i:Int))]
theorem T.mL (h0:MkI M z w0 D a cc xs k 0 k ys w)
 (H:∀ i k1 ys e w,MkI M z w0 D a cc xs k i k1 ys w→(∀ i' k1' ys' e' w',(mS a xs.length cc i' k1').map (fun p=>e' p.1)=(mS a xs.length cc i' k1').map (fun p=>p.2)→MkI M z w0 D a cc xs k i' k1' ys' w'→i< i'→T P f fn R (.inLoop (bdy c)::kk) e' w') →
  T P f fn R (.code (bdy c) :: .inLoop (bdy c)::kk) (Ou e (mS a xs.length cc i k1)) w)
 (h:N9 c=true:=by kernel_rfl) (ha:(mS a xs.length cc 0 k).map (fun p=>e p.1)=(mS a xs.length cc 0 k).map (fun p=>p.2):=by kernel_rfl):T P f fn R (.code c::kk) e w :=
 T.loop ((0,k):Nat × Int) (fun x=>mS a xs.length cc x.1 x.2) (fun x w=>∃ ys,MkI M z w0 D a cc xs k x.1 x.2 ys w) (fun x=>xs.length - x.1) h (Jo ha) ⟨ys,h0⟩
  fun x e w ⟨ys,hI⟩ hb=>H x.1 x.2 ys e w hI fun i' k1' ys' e' w' h1 h2 h3=>hb (i',k1') e' w' (Jo h1) ⟨ys',h2⟩ (by have:=h2.le; simp only []; omega)
end
section
variable {α:Type} {l:List (Option Addr × Nat)} {i:Nat} {us vs:List α}
theorem JJ (h:vs.length=us.length):sv l i vs=sv l i us:=by unfold sv; rw [h]
theorem Tr [Rep α] (h:vs.length=us.length):Shp.cells vs l=Shp.cells us l:=by show [sv l 0 vs]=[sv l 0 us]; rw [JJ h]
end
section
variable {l:List (Option Addr × Nat)}
theorem YB {t:Tag}{us vs:List Int}(h:vs.length=us.length):Shp.cells (⟨t,vs⟩:Pst) l=Shp.cells (⟨t,us⟩:Pst) l:=by show [_,_,sv l 0 vs]=[_,_,sv l 0 us]; rw [JJ h]
theorem V8 {bs:List (List Row)}{us vs:List Int}(h:vs.length=us.length):Shp.cells (⟨vs,bs⟩:Prt) l=Shp.cells (⟨us,bs⟩:Prt) l:=by show [sv l 0 vs,_]=[sv l 0 us,_]; rw [JJ h]
theorem V9 {is:List Int}{us vs:List (List Row)}(h:vs.length=us.length):Shp.cells (⟨is,vs⟩:Prt) l=Shp.cells (⟨is,us⟩:Prt) l:=by show [_,sv l 1 vs]=[_,sv l 1 us]; rw [JJ h]
theorem WA {n:Int}{bs:List (List Row)}{us vs:List Int}(h:vs.length=us.length):Shp.cells (⟨n,vs,bs⟩:Fil) l=Shp.cells (⟨n,us,bs⟩:Fil) l:=by show [_,sv l 0 vs,_]=[_,sv l 0 us,_]; rw [JJ h]
theorem WB {n:Int}{is:List Int}{us vs:List (List Row)}(h:vs.length=us.length):Shp.cells (⟨n,is,vs⟩:Fil) l=Shp.cells (⟨n,is,us⟩:Fil) l:=by show [_,_,sv l 1 vs]=[_,_,sv l 1 us]; rw [JJ h]
theorem l1_:∀ l:List (Option Addr × Nat),l.length=1→∃ a0 c0,l=[(a0,c0)]
 | [p],_=>⟨p.1,p.2,rfl⟩
theorem l2_:∀ l:List (Option Addr × Nat),l.length=2→∃ a0 c0 a1 c1,l=[(a0,c0),(a1,c1)]
 | [p,q],_=>⟨p.1,p.2,q.1,q.2,rfl⟩
theorem l3_:∀ l:List (Option Addr × Nat),l.length=3→∃ a0 c0 a1 c1 a2 c2,l=[(a0,c0),(a1,c1),(a2,c2)]
 | [p,q,r],_=>⟨p.1,p.2,q.1,q.2,r.1,r.2,rfl⟩
theorem l4_:∀ l:List (Option Addr × Nat),l.length=4→∃ a0 c0 a1 c1 a2 c2 a3 c3,l=[(a0,c0),(a1,c1),(a2,c2),(a3,c3)]
 | [p,q,r,s],_=>⟨p.1,p.2,q.1,q.2,r.1,r.2,s.1,s.2,rfl⟩
theorem l7_:∀ l:List (Option Addr × Nat),l.length=7→∃ a0 c0 a1 c1 a2 c2 a3 c3 a4 c4 a5 c5 a6 c6,l=[(a0,c0),(a1,c1),(a2,c2),(a3,c3),(a4,c4),(a5,c5),(a6,c6)]
 | [p,q,r,s,t,u,v],_=>⟨p.1,p.2,q.1,q.2,r.1,r.2,s.1,s.2,t.1,t.2,u.1,u.2,v.1,v.2,rfl⟩
end
def evQ (_:Evt) (_:Int):Prop:=True
def evZ (e:Evt):Int:=lsZ CJ e.name
theorem ZZ (e:Evt):0≤evZ e:=Ac Il e.name
end Go.Proofs.YtcginoabkicdiaaGreat
