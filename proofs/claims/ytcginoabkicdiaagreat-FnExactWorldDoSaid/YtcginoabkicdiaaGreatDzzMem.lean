/- Memory in two parts: the blocks M that the call still changes, and all the rest, which stands. No conditions. -/
import Derived.Test.YtcginoabkicdiaaGreatDzzEng
import Derived.MapKept
import Derived.Test.YtcginoabkicdiaaGreatProg
set_option linter.unusedVariables false
set_option linter.unusedSimpArgs false
namespace Go.Proofs.YtcginoabkicdiaaGreat
def nin (G:Nat→Prop) (M:List Nat) (b:Nat):Prop:=G b∧b∉M
def fo (F:Nat→Prop) (s:Nat) (b:Nat):Prop:=F b∨s≤b
def ins (L:List Nat) (b:Nat):Prop:=b∈L
def Mv (M M':List Nat) (w w':World):Prop:=∀ b,b< w.heap.size→b∉M→b∉M'∧w'.heap[b]? = w.heap[b]?
theorem Mv.mk {S:Nat→Prop}{M M':List Nat}{w w':World}(hx:Chg S w w') (h:∀ b,b< w.heap.size→b∉M→b∉M'∧¬ S b):Mv M M' w w' :=
 fun b hb hm=>⟨(h b hb hm).1,hx.block b hb (h b hb hm).2⟩
section
variable {α:Type} [Rep α] {w w':World} {G G':Nat→Prop} {M M':List Nat} {a:Option Addr} {n c r b:Nat} {t:TypeId} {xs:List α} {cs:List Value}
theorem RepS.mv (h:RepS w (nin G M) a n c xs) (hm:Mv M M' w w'):RepS w' (nin G M') a n c xs :=
 h.frame fun b hb hF=>⟨⟨hF.1,(hm b hb hF.2).1⟩,(hm b hb hF.2).2⟩
theorem RepS.base (h:RepS w (nin G M) a n c xs) (hg:∀ b,b< w.heap.size→G b→G' b):RepS w (nin G' M) a n c xs :=
 h.Bj fun b hb hF=>⟨hg b hb hF.1,hF.2⟩
theorem Box.mv {S:Nat→Prop}(h:Box w b t cs) (hx:Chg S w w') (hb:¬ S b):Box w' b t cs:=h.chg hx hb
theorem Own.mv {S:Nat→Prop}(h:Own w r t (nin G M) n c xs) (hm:Mv M M' w w') (hx:Chg S w w') (hr:¬ S r):Own w' r t (nin G M') n c xs:=by
 refine ⟨h.len,h.le,h.cap,?_,fun i x hi=>?_⟩
 ·obtain ⟨cur,h1,h2⟩:=h.row
  exact ⟨cur,(hx.block r h.lt hr).trans h1,h2⟩
 ·obtain ⟨cs,h1,h2⟩:=h.elem i x hi
  exact ⟨cs,Rep.frame h1 (fun b hb hF=>⟨⟨⟨hF.1.1,(hm b hb hF.1.2).1⟩,hF.2⟩,(hm b hb hF.1.2).2⟩),h2.chg hx hr⟩
theorem Own.base (h:Own w r t (nin G M) n c xs) (hg:∀ b,b< w.heap.size→G b→G' b):Own w r t (nin G' M) n c xs :=
 h.Bj fun b hb hF=>⟨hg b hb hF.1,hF.2⟩
theorem Own.Bv (h:Box w r t []):Own w r t (nin G M) 0 0 ([]:List α):=Own.nil h _
end
variable {w:World} {F:Nat→Prop}
theorem RepS.top {α:Type}[Rep α] {a:Option Addr}{n c s:Nat}{xs:List α}(h:RepS w F a n c xs):RepS w (nin (fo F s) []) a n c xs :=
 h.Bj fun _ _ hF=>⟨.inl hF,by simp⟩
theorem RepS.fresh {α:Type}[Rep α] {w:World}{G:Nat→Prop}{M:List Nat}{a:Option Addr}{n c s:Nat}{xs:List α}(h:RepS w (ge s) a n c xs) (hM:∀ b,b∈M→b< s) (hG:∀ b,s≤b→G b):RepS w (nin G M) a n c xs :=
 h.Bj fun b _ hF=>⟨hG b hF,fun hm=>by have:=hM b hm; unfold ge at hF; omega⟩
def mtb (L:List Nat) (s:Nat) (b:Nat):Prop:=b∈L∨s≤b
theorem RepS.blt {α:Type}[Rep α] {a:Option Addr}{n c:Nat}{xs:List α}(h:RepS w F a n c xs) (hn:0< n):blk a< w.heap.size:=by
 have hx:0< xs.length:=by have:=h.len; omega
 obtain ⟨cs,hr,hc⟩:=h.elem 0 xs[0] (by simp [hx])
 have hl:=Rep.len hr
 have hp:=Rep.pos (α:=α)
 have h0:=hc 0 cs[0] AD
 rw [add_lit] at h0
 exact World.block_lt_of_cell? w _ h0
theorem RepS.mixed {α:Type}[Rep α] {M M':List Nat}{a:Option Addr}{n c s s':Nat}{xs:List α}(h:RepS w (fo (nin (fo F s') M') s) a n c xs) (hM:∀ b,b∈M→b< s∧b∈M') (hs:s'≤s):RepS w (nin (fo F s') M) a n c xs :=
 h.Bj fun b _ hF=>by
  rcases hF with hF | hF
  ·exact ⟨hF.1,fun hm=>hF.2 (hM b hm).2⟩
  ·exact ⟨.inr AB,fun hm=>by have:=(hM b hm).1; omega⟩
section
variable {α:Type} [Rep α] {w w':World} {G G':Nat→Prop} {M M':List Nat} {a:Option Addr} {n c r b:Nat} {t:TypeId} {xs:List α} {cs:List Value}
theorem Own.RI (h:Own w r t (nin G M) n c xs) (hm:∀ b,b< w.heap.size→b∉M→b≠r→b∉M'):Own w r t (nin G M') n c xs :=
 ⟨h.len,h.le,h.cap,h.row,fun i x hi=>by
  obtain ⟨cs,h1,h2⟩:=h.elem i x hi
  exact ⟨cs,Rep.frame h1 (fun b hb hF=>⟨⟨⟨hF.1.1,hm b hb hF.1.2 hF.2⟩,hF.2⟩,rfl⟩),h2⟩⟩
theorem VS.of {F:Nat→Prop}{x y:α}{v:Value}(h:VS F w y v) (e:y=x):VS F w x v:=e▸h
end
def VO {α:Type}[Rep α] (t:TypeId) (s:Nat) (w:World) (xs:List α) (v:Value):Prop:=∃ r n c,v=.slice (some ⟨r,0,none⟩) n c∧Own w r t (nin (ge s) []) n c xs∧s≤r
theorem VO.of {α:Type}[Rep α] {t:TypeId}{s r n c:Nat}{w:World}{M:List Nat}{xs ys:List α}(h:Own w r t (nin (ge s) M) n c xs) (e:xs=ys) (hr:s≤r):VO t s w ys (.slice (some ⟨r,0,none⟩) n c) :=
 ⟨r,n,c,rfl,e▸h.RI (fun _ _ _ _=>by simp),hr⟩
theorem Own.take {α:Type}[Rep α] {t:TypeId}{s s0 r n c:Nat}{w:World}{M:List Nat}{xs:List α}(h:Own w r t (nin (ge s) []) n c xs) (hM:∀ b,b∈M→b< s) (hs:s0≤s):Own w r t (nin (ge s0) (r::M)) n c xs :=
 ⟨h.len,h.le,h.cap,h.row,fun i x hi=>by
  obtain ⟨cs,h1,h2⟩:=h.elem i x hi
  refine ⟨cs,Rep.frame h1 (fun b hb hF=>⟨⟨⟨Nat.le_trans hs hF.1.1,fun hm=>?_⟩,hF.2⟩,rfl⟩),h2⟩
  rcases List.mem_cons.1 hm with rfl | hm
  ·exact hF.2 rfl
  ·have h3:=hM b hm
   have h4:s≤b:=hF.1.1
   omega⟩
def Flat (α:Type) [Rep α]:Prop:=∀ (w w':World) (F F':Nat→Prop) (x:α) (cs:List Value),Rep.rep w F x cs→Rep.rep w' F' x cs
theorem Av:Flat Int:=fun _ _ _ _ _ _ h=>h
theorem Bn:Flat Row:=fun _ _ _ _ _ _ h=>h
theorem Lc:Flat Tag:=fun _ _ _ _ _ _ h=>h
theorem G7:Flat Smp:=fun _ _ _ _ _ _ h=>h
section
variable {α:Type} [Rep α] {w w':World} {F F':Nat→Prop} {a:Option Addr} {n c r m c':Nat} {t:TypeId} {xs ys:List α}
theorem Own.flat (hf:Flat α) (h:Own w r t F n c xs):Own w r t F' n c xs :=
 ⟨h.len,h.le,h.cap,h.row,fun i x hi=>by
  obtain ⟨cs,h1,h2⟩:=h.elem i x hi
  exact ⟨cs,hf _ _ _ _ _ _ h1,h2⟩⟩
theorem Own.Vc (hf:Flat α) (h:Own w r t F n c xs):RepS w (one r) (some ⟨r,0,none⟩) n c xs :=
 (h.flat (F':=fun _=>False) hf).QQ (fun _ _ h=>h.elim) rfl
theorem Own.DQ {P:Program}{T ty:TypeId}{F2:Nat→Prop}(hf:Flat α) (ho:Own w r t F n c xs) (hT:E2 P T t (Rep.sz α)=true)
 (hn:RepS w F2 a m c' ys) (h2:∀ b,F2 b→b≠r) (hs:n+m≤100000000000) :
 ∃ r' c2 w', (Builtin.append_ #[T, T] ty #[.slice (some ⟨r, 0, none⟩) n c, .slice a m c']).run P w = .ok (.slice (some ⟨r', 0, none⟩) (n + m) c2) w' ∧
   Own w' r' t F (n+m) c2 (xs++ys)∧(r'=r∨r'=w.heap.size)∧Chg (one r) w w'∧w'.heap.size≤w.heap.size+1:=by
 obtain ⟨r',c2,w',h1,h3,h4,h5,h6⟩:=(ho.Bj (F':=all) (fun _ _ _=>trivial)).append (P:=P) (T:=T) (ty:=ty) hT hn (fun b _ hb=>⟨trivial,h2 b hb⟩) hs
 exact ⟨r',c2,w',h1,h3.flat hf,h4,h5,h6⟩
theorem RG.DQ {P:Program}{nn:Nat}{K:Env→World→Prop}{ops:Array Oper}{j:Nat}{e:Env}{T ty:TypeId}{F2:Nat→Prop}(hf:Flat α) (ho:Own w r t F n c xs) (hn:RepS w F2 a m c' ys)
 (h:Bk nn ops j e=some (.append,[T,T],ty,[.slice (some ⟨r,0,none⟩) n c,.slice a m c'])) (hT:E2 P T t (Rep.sz α)=true)
 (h2:∀ b,F2 b→b≠r) (hs:n+m≤100000000000)
 (H:∀ r' c2 w',Own w' r' t F (n+m) c2 (xs++ys)→(r'=r∨r'=w.heap.size)→Chg (one r) w w'→RG P nn K ops (j+1) (Ag e (Ad ops j).dst (.slice (some ⟨r',0,none⟩) (n+m) c2)) w'):RG P nn K ops j e w:=by
 obtain ⟨r',c2,w',hrun,ho',hor,hx,_⟩:=ho.DQ (P:=P) (T:=T) (ty:=ty) hf hT hn h2 hs
 exact RG.append h hrun (H r' c2 w' ho' hor hx)
end
theorem Ab {α:Type}{xs:List α}{k:Nat}{x:α}(h:xs[k]? = some x):xs.drop k=x::xs.drop (k+1):=by
 obtain ⟨h1,h2⟩:=List.getElem?_eq_some_iff.1 h
 rw [List.drop_eq_getElem_cons h1,h2]
theorem Aa {α:Type}{xs:List α}{k:Nat}(h:xs.length≤k):xs.drop k=[]:=List.drop_of_length_le h
theorem Vd {P:Program}{n:Nat}{ops:Array Oper}{j:Nat}{e:Env}{w:World}{v:Value}{t:TypeId}{cs:List Value}(h:Bl P n ops j e w.heap.size=some (v,t,cs)) :
 CC n ops j e=true∧(execOp (ev e) (Ad ops j)).run P w=.ok (.value v) (w.alloc (.cells cs.toArray t)):=by
 unfold Bl at h
 split at h
 ·rename_i v' cs' t' hn
  simp only [Option.some.injEq,Prod.mk.injEq] at h
  obtain ⟨rfl,rfl,rfl⟩:=h
  obtain ⟨hg,h⟩:=CG hn
  refine ⟨hg,?_⟩
  split at h
  ·rename_i v2 o' hs
   simp only [Option.some.injEq,Prod.mk.injEq] at h
   obtain ⟨rfl,rfl⟩:=h
   rw [RA _ hs]
   have hp:w.heap++[Obj.cells cs' t' (0,0)].toArray=w.heap.push (Obj.cells cs'.toList.toArray t' (0,0)):=by simp
   rw [hp]
   rfl
  ·cases h
 ·cases h
theorem LF {P:Program}{n:Nat}{ops:Array Oper}{j:Nat}{e:Env}{w w':World}{ats:List TypeId}{ty:TypeId}{args:List Value}{v:Value}(h:Bk n ops j e=some (.append,ats,ty,args))
 (hr:(Builtin.append_ ats.toArray ty args.toArray).run P w=.ok v w'):(execOp (ev e) (Ad ops j)).run P w=.ok (.value v) w':=by
 obtain ⟨hg,h⟩:=CG h
 split at h
 ·rename_i c hop
  split at h
  ·rename_i b hcal
   simp only [Option.some.injEq,Prod.mk.injEq] at h
   obtain ⟨rfl,rfl,rfl,rfl⟩:=h
   have ha:(c.args.toList.map (ev e)).toArray=c.args.map (ev e):=by apply Array.toList_inj.1; simp
   rw [ha,Array.toArray_toList] at hr
   simp only [execOp,hop,resolve,hcal]
   exact AZ hr
  ·cases h
 ·cases h
section
variable {P:Program} {S:Nat→Prop} {n m:Nat} {L:Env→World→Prop} {ops:Array Oper} {l:List Nat} {e:Env} {w:World}
def GE (P:Program) (S:Nat→Prop) (n m:Nat) (L:Env→World→Prop) (ops:Array Oper) (l:List Nat) (i:Nat) (e:Env) (w:World):Prop :=
 ∀ w1,Ext w w1→Gk P S ((execOp (ev e) (Ad ops i)).run P w1) w1 (fun v w2=>GA P S n m L ops (i::l) (Ag e (Ad ops i).dst v) w2)
theorem GE.one {i:Nat}(h:Vb n m ops l i e=true) (H:GE P S n m L ops l i e w):GA P S n m L ops l e w:=GA.one h H
def Xm (n m:Nat) (ops:Array Oper) (l:List Nat) (i j:Nat) (e:Env):Bool :=
 Cr n m ops l i&&CC n ops i e&&Cr n m ops l j&&CC n ops j e&&(match LZ ops l with | [a,b]=>Nat.beq a i&&Nat.beq b j | _=>false)
theorem GE.two {i j:Nat}(h:Xm n m ops l i j e=true) (Hi:GE P S n m L ops l i e w) (Hj:GE P S n m L ops l j e w):GA P S n m L ops l e w:=by
 intro hB f a hf ha inv
 simp only [Xm,AW] at h
 obtain ⟨⟨⟨⟨h1,h2⟩,h3⟩,h4⟩,h5⟩:=h
 have hready:Region.ready .any ops (lst ops.size l)=[i,j]:=by
  split at h5
  ·rename_i a b hj
   simp only [AW] at h5
   rw [← Ji,hj,Nat.eq_of_beq_eq_true h5.1,Nat.eq_of_beq_eq_true h5.2]
  ·cases h5
 have hlm:=(Dl h1).1
 obtain ⟨f,rfl⟩:∃ g,f=g+1:=⟨f - 1,by omega⟩
 have key:∀ k,Cr n m ops l k=true→CC n ops k e=true→GE P S n m L ops l k e w→∀ w1,Ext w w1→k< m∧gOp P S ops k (Kk P S ops m (fun listed a' w'=>listed=fin ops m∧∃ e',Sees n a' e'∧L e' w') f ((lst ops.size l).setIfInBounds k true)) a w1:=by
  intro k hk1 hk2 HK w1 hx
  obtain ⟨_,him,hd,hi,hr⟩:=Dl hk1
  refine ⟨him,?_⟩
  simp only [CC,AW] at hk2
  unfold gOp
  simp only [hi]
  rw [ha.want,hk2.2,if_pos rfl,ha.eval]
  refine Ea (fun v w2 _ hq=>?_) (HK w1 hx)
  have:=hq hB f (a.put (Ad ops k).dst v) (by simp only [List.length_cons]; omega) (ha.Mt hd v) (by rw [Cz]; exact inv.set hr him)
  rwa [Cz] at this
 refine ⟨by rw [hready]; simp,fun w1 hx k hk=>?_⟩
 rw [hready] at hk
 rcases List.mem_cons.1 hk with rfl | hk
 ·exact key _ h1 h2 Hi w1 hx
 ·rcases List.mem_cons.1 hk with rfl | hk
  ·exact key _ h3 h4 Hj w1 hx
  ·cases hk
theorem GE.call {i:Nat}{f:FuncId}{args:List Value}{Q:World→Value→World→Prop}(hf:Bf P n ops i e=some (f,args))
 (hc:∀ w1,Ext w w1→Calls P f args.toArray w1 (Af (Q w1))) (H:∀ w1,Ext w w1→∀ v w2,Q w1 v w2→Chg S w1 w2∧GA P S n m L ops (i::l) (Ag e (Ad ops i).dst v) w2):GE P S n m L ops l i e w:=fun w1 hx=>by
 rw [(G5 hf w1).2]
 exact ⟨Chg.refl S _,(hc w1 hx).mono fun x w2 ⟨u,hxu,hq⟩=>⟨u,hxu,H w1 hx u w2 hq⟩⟩
theorem GE.new {i:Nat}{v:Nat→Value}{t:TypeId}{cs:List Value}(hn:∀ b,Bl P n ops i e b=some (v b,t,cs))
 (H:∀ w1,Ext w w1→∀ b w2,b=w1.heap.size→Ext w1 w2→Box w2 b t cs→w2.heap.size=b+1→GA P S n m L ops (i::l) (Ag e (Ad ops i).dst (v b)) w2):GE P S n m L ops l i e w:=fun w1 hx=>by
 rw [(Vd (hn _)).2]
 exact ⟨(Ext.alloc _ _).chg,H w1 hx _ _ rfl (Ext.alloc _ _) (Box.new _ _ _) (by show (w1.heap.push _).size=_; simp)⟩
theorem GE.append {i:Nat}{T ty:TypeId}{args:List Value}(hb:Bk n ops i e=some (.append,[T,T],ty,args))
 (H:∀ w1,Ext w w1→∃ v w2,(Builtin.append_ #[T,T] ty args.toArray).run P w1=.ok v w2∧Chg S w1 w2∧GA P S n m L ops (i::l) (Ag e (Ad ops i).dst v) w2):GE P S n m L ops l i e w:=fun w1 hx=>by
 obtain ⟨v,w2,h1,h2,h3⟩:=H w1 hx
 rw [LF hb h1]
 exact ⟨h2,h3⟩
theorem Fc {i:Nat}{t:TypeId}{a:Addr}{v:Value}{w w':World}(h:storeAt n ops i e=some (t,a,v)) (hv:(storeVar t a v).run P w=.ok () w'):(execOp (ev e) (Ad ops i)).run P w=.ok .skip w':=by
 obtain ⟨hg,h⟩:=CG h
 split at h
 ·rename_i t' x v' hop
  split at h
  ·rename_i a' hx
   simp only [Option.some.injEq,Prod.mk.injEq] at h
   obtain ⟨rfl,rfl,rfl⟩:=h
   simp only [execOp,hop,hx]
   exact AZ hv
  ·cases h
 ·cases h
theorem GE.LY {i:Nat}{t t':TypeId}{b o:Nat}{cs:List Value}{v:Value}(cs':List Value) (hb:Box w b t cs) (h:storeAt n ops i e=some (t',⟨b,o,none⟩,v))
 (hs:(Da P t' v.cells.size&&Nat.ble (o+v.cells.size) cs.length&&v.cells.toList.all Cy)=true) (hc:Ay cs o v.cells.toList=cs')
 (H:∀ w1,Ext w w1→∀ w2,Chg (Go.Proofs.YtcginoabkicdiaaGreat.one b) w1 w2→Box w2 b t cs'→w2.heap.size=w1.heap.size→Chg S w1 w2∧GA P S n m L ops (i::l) (Ag e (Ad ops i).dst undef) w2):GE P S n m L ops l i e w:=fun w1 hx=>by
 simp only [AW] at hs
 obtain ⟨w',hr,hb',hx2,hsz⟩:=(hb.ext hx).store (P:=P) (t':=t') (o:=o) (v:=v) hs.1.1 (Nat.le_of_ble_eq_true hs.1.2) hs.2
 rw [hc] at hb'
 rw [Fc h hr]
 obtain ⟨h1,h2⟩:=H w1 hx w' hx2 hb' hsz
 exact ⟨h1,h2⟩
end
theorem O2 (s:ByteArray):∀ n i acc,n=s.size - i→ByteArray.toList.loop s i acc=acc.reverse++s.data.toList.drop i:=by
 intro n
 induction n with
 | zero =>
   intro i acc h
   unfold ByteArray.toList.loop
   have hs:s.size=s.data.toList.length:=rfl
   rw [if_neg AB,List.drop_of_length_le AB]
   simp
 | succ n ih =>
   intro i acc h
   unfold ByteArray.toList.loop
   have hs:s.size=s.data.toList.length:=rfl
   rw [if_pos AB,ih _ _ AB]
   rw [List.drop_eq_getElem_cons (by omega:i< s.data.toList.length)]
   have:s.get! i=s.data.toList[i]' AB:=by
    have hi:i< s.data.size:=by simpa using (by omega:i< s.data.toList.length)
    show s.data[i]! = _
    rw [getElem!_pos s.data i hi]
    simp
   rw [this]
   simp
theorem Bw (s:Str):(bs s).toList=s:=by
 unfold ByteArray.toList
 rw [O2 _ _ 0 [] rfl]
 simp [bs]
theorem LG (s:Str):(bs s).size=s.length:=by simp [bs,ByteArray.size]
theorem Xn (s t:Str):bs s++bs t=bs (s++t):=by
 apply ByteArray.ext
 simp [bs]
theorem Xo {s t:Str}(h:bs s=bs t):s=t:=by
 have:=congrArg (fun b:ByteArray=>b.data.toList) h
 simpa [bs] using this
theorem Xp (s t:Str):(bs s==bs t)=(s==t):=by
 rw [Bool.eq_iff_iff,Go.MapKept.bytes_beq,beq_iff_eq]
 exact ⟨Xo,fun h=>by rw [h]⟩
def Bh (s t:Str):Bool:=Op.bytesLess s t
def Gm (s t:Str):Bool:=Op.bytesLess s t || s==t
theorem Xq (s t:Str):Value.bool ((bs s).toList==(bs t).toList)=.bool (s==t):=by rw [Bw,Bw]
theorem O3 (s t:Str):Value.bool (!((bs s).toList==(bs t).toList))=.bool (!(s==t)):=by rw [Bw,Bw]
theorem ZE (s t:Str):Value.bool (Op.bytesLess (bs s).toList (bs t).toList)=.bool (Bh s t):=by rw [Bw,Bw]; rfl
theorem ZF (s t:Str):Value.bool (Op.bytesLess (bs s).toList (bs t).toList || (bs s).toList==(bs t).toList)=.bool (Gm s t):=by rw [Bw,Bw]; rfl
theorem Ve (s t:Str):Value.bool (!(Op.bytesLess (bs s).toList (bs t).toList))=.bool (!Bh s t):=by rw [Bw,Bw]; rfl
theorem Ld (s:Str):Value.int .i64 ((bs s).size:Int)=.int .i64 (s.length:Int):=by rw [LG]
def ltG (G:Nat→Prop) (s b:Nat):Prop:=G b∧b< s
class Nb (a b:Nat):Prop where ne:a≠b
def Gb (s b:Nat):Prop:=s≤b
class Cov (L:Nat→Prop) (w:World) (b:Nat):Prop where or:L b∨w.heap.size≤b
def OrB (r r0 s:Nat):Prop:=r=r0∨s≤r
theorem QR {α:Type}{xs:List α}{i:Nat}{x:α}(h:xs[i]? = some x):0< xs.length:=by
 obtain ⟨h1,_⟩:=List.getElem?_eq_some_iff.1 h
 omega
theorem all_nil {p:Nat→Prop}:∀ b∈([]:List Nat),p b:=fun _ h=>by cases h
theorem all_cons {p:Nat→Prop}{a:Nat}{l:List Nat}(h:p a) (hl:∀ b∈l,p b):∀ b∈a::l,p b:=fun b hb=>by
 rcases List.mem_cons.1 hb with rfl | hb
 ·exact h
 ·exact hl b hb
section
variable {a b x r r0 r2 s sz:Nat} {w w' base:World} {L:Nat→Prop}
instance:CoeFun (Nb a b) (fun _=>a=b→False):=⟨fun h=>h.ne⟩
instance:Coe (Nb a b) (a≠b):=⟨fun h=>h.ne⟩
instance:Coe (a≠b) (Nb a b):=⟨Nb.mk⟩
instance:Coe (Cov (Go.Proofs.YtcginoabkicdiaaGreat.one a) w b) (OrB b a w.heap.size):=⟨fun h=>h.or⟩
theorem Nb.symm (h:Nb a b):Nb b a:=⟨Ne.symm h.ne⟩
theorem Nb.one (h:Nb a b):¬ one b a:=h.ne
theorem Az (hb:b=s) (hx:x< s):Nb b x:=⟨by omega⟩
theorem EX (hb:s≤b) (hx:x< s):Nb b x:=⟨by omega⟩
theorem En (h:r2=r∨r2=s) (h1:Nb r x) (h2:x< s):Nb r2 x:=⟨by have:=h1.ne; omega⟩
theorem Ib (h:OrB r r0 s) (h1:Nb r0 x) (h2:x< s):Nb r x:=⟨by have:=h1.ne; unfold OrB at h; omega⟩
theorem C9 (hb:b=sz) (hs:s≤sz):Gb s b:=by unfold Gb; omega
theorem O4 (hb:sz≤b) (hs:s≤sz):Gb s b:=by unfold Gb; omega
theorem Gn (h:r2=r∨r2=sz) (h1:Gb s r) (h2:s≤sz):Gb s r2:=by unfold Gb at *; omega
theorem LH (hb:b=sz) (hs:base.heap.size≤sz):Cov L base b:=⟨.inr AB⟩
theorem Xr (hb:sz≤b) (hs:base.heap.size≤sz):Cov L base b:=⟨.inr AB⟩
theorem Ic (h:r2=r∨r2=sz) (h1:Cov L base r) (h2:base.heap.size≤sz):Cov L base r2:=by
 rcases h with rfl | rfl
 ·exact h1
 ·exact ⟨.inr h2⟩
theorem RJ (h:OrB r r0 sz) (h1:Cov L base r0) (h2:base.heap.size≤sz):Cov L base r:=by
 rcases h with rfl | h
 ·exact h1
 ·exact ⟨.inr (Nat.le_trans h2 h)⟩
theorem Vf (h:OrB r2 r sz) (h1:OrB r r0 s) (h2:s≤sz):OrB r2 r0 s:=by unfold OrB at *; omega
theorem O5:OrB r r s:=.inl rfl
theorem Chg.NR {c d:World}(h:Chg L base c) (h':Ext c d):Chg L base d:=Chg.step h h' (fun _ h _=>h.elim)
theorem Chg.Dy {c d:World}(h:Chg L base c) (h':Chg (Go.Proofs.YtcginoabkicdiaaGreat.one b) c d) (hc:Cov L base b):Chg L base d :=
 Chg.step h h' (fun k hk hlt=>by cases hk; exact hc.or.resolve_right AB)
theorem Chg.O6 {K:List Nat}{c d:World}(h:Chg L base c) (h':Chg (ins K) c d) (hc:∀ b∈K,Cov L base b):Chg L base d :=
 Chg.step h h' (fun k hk hlt=>(hc k hk).or.resolve_right AB)
theorem Cov.toS {K:List Nat}(h:Cov (mtb K w.heap.size) w b):mtb K w.heap.size b:=h.or.elim id .inr
theorem Chg.toS {K:List Nat}(h:Chg (Go.Proofs.YtcginoabkicdiaaGreat.one b) w w') (hc:mtb K s b):Chg (mtb K s) w w':=h.Bj (fun k _ hk=>by cases hk; exact hc)
variable {M M' M2 A B:List Nat}
theorem Mv.ext (hx:Ext w w'):Mv M M w w':=Mv.mk hx (fun _ _ h=>⟨h,fun h=>h⟩)
theorem Mv.cons (hm:Mv M M' w w') (hs:w.heap.size≤b):Mv M (b::M') w w':=fun k hk hk'=>⟨by
 intro h
 rcases List.mem_cons.1 h with rfl | h
 ·omega
 ·exact (hm k hk hk').1 h,(hm k hk hk').2⟩
theorem Mv.on (hx:Chg (Go.Proofs.YtcginoabkicdiaaGreat.one b) w w') (hb:b∈M):Mv M M w w':=Mv.mk hx (fun k _ h=>⟨h,fun e=>h (by cases e; exact hb)⟩)
theorem Mv.app (A B:List Nat) (hx:Chg (Go.Proofs.YtcginoabkicdiaaGreat.one r) w w') (h:r2=r∨r2=w.heap.size):Mv (A++r::B) (A++r2::B) w w':=Mv.mk hx (fun k hk hm=>by
 simp only [List.mem_append,List.mem_cons,not_or] at hm ⊢
 exact ⟨⟨hm.1,by omega,hm.2.2⟩,hm.2.1⟩)
theorem Mv.inl {K:List Nat}(hx:Chg (ins K) w w') (hK:∀ b∈K,b∈M) (h2:∀ b∈M2,b∈M∨w.heap.size≤b):Mv M M2 w w':=Mv.mk hx (fun k hk hm =>
 ⟨fun h=>(h2 k h).elim hm (fun h=>by omega),fun h=>hm (hK k h)⟩)
theorem Mv.drop (A B:List Nat):Mv (A++r::B) (A++B) w w:=fun k _ hm=>⟨by
 simp only [List.mem_append,List.mem_cons,not_or] at hm ⊢
 exact ⟨hm.1,hm.2.2⟩,rfl⟩
theorem Mv.less (h:∀ b∈M',b∈M):Mv M M' w w:=fun k _ hm=>⟨fun h'=>hm (h k h'),rfl⟩
theorem RK (h:OrB r r0 s) (hm:r0∈M):r∈M∨s≤r:=by
 rcases h with rfl | h
 ·exact .inl hm
 ·exact .inr h
theorem Xs {G:Nat→Prop}(hr:r∈M) (h:nin G M b):nin G M b∧b≠r:=⟨h,fun e=>h.2 (e▸hr)⟩
theorem OK {G:Nat→Prop}(hg:G b) (hn:∀ x∈M,Nb b x) (hr:Nb b r):nin G M b∧b≠r:=⟨⟨hg,fun h=>(hn b h).ne rfl⟩,hr.ne⟩
theorem DJ {K:List Nat}(h1:∀ x∈K,Nb b x) (h2:b< s):¬ mtb K s b:=fun h=>h.elim (fun h=>(h1 b h).ne rfl) (fun h=>by omega)
section
variable {α:Type} [Rep α] {G:Nat→Prop} {o:Option Addr} {n c:Nat} {t:TypeId} {xs:List α}
theorem RepS.nS {K:List Nat}(h:RepS w (nin (ltG G s) M) o n c xs) (hn:0< n) (hL:∀ x∈K,x∈M):¬ mtb K s (blk o):=fun hk =>
 have hF:=h.inF hn
 hk.elim (fun hb=>hF.2 (hL _ hb)) (fun hb=>by have:=hF.1.2; omega)
theorem RepS.SE {K:List Nat}(h:RepS w (nin (ltG G s) M) o n c xs) (hx:Chg (mtb K s) w w') (hL:∀ x∈K,x∈M):RepS w' all o n c xs :=
 (h.chg hx (fun b hF hk=>hk.elim (fun hb=>hF.2 (hL _ hb)) (fun hb=>by have:=hF.1.2; omega))).Bj (fun _ _ _=>trivial)
theorem RepS.FI (h:RepS w (nin G M) o n c xs):RepS w (nin (ltG G w.heap.size) M) o n c xs:=h.Bj (fun b hb hF=>⟨⟨hF.1,hb⟩,hF.2⟩)
theorem RepS.C3 (h:RepS w (nin (ltG G s) M) o n c xs):RepS w (nin G M) o n c xs:=h.base (fun _ _ h=>h.1)
end
end
section
variable {α:Type} [Rep α] {w:World} {G F:Nat→Prop} {M M' rs:List Nat} {o:Option Addr} {n c r s s0 s':Nat} {t:TypeId} {xs ys:List α}
theorem RepS.eqx (h:RepS w F o n c xs) (e:xs=ys):RepS w F o n c ys:=e▸h
theorem Own.eqx (h:Own w r t F n c xs) (e:xs=ys):Own w r t F n c ys:=e▸h
theorem RepS.EB (h:RepS w (nin G M) o n c xs) (hs:∀ b∈M',b∈M):RepS w (nin G M') o n c xs:=h.Bj fun k _ hk=>⟨hk.1,fun e=>hk.2 (hs k e)⟩
theorem Own.EB (h:Own w r t (nin G M) n c xs) (hs:∀ b∈M',b∈M):Own w r t (nin G M') n c xs:=h.Bj fun k _ hk=>⟨hk.1,fun e=>hk.2 (hs k e)⟩
theorem O7 {k:Nat}(h:nin (ge s) rs k) (hM:∀ b∈M,b< s) (hs:s0≤s):nin (ge s0) (rs++M) k:=⟨Nat.le_trans hs h.1,fun hm=>by
 rcases List.mem_append.1 hm with hm | hm
 ·exact h.2 hm
 ·have h1:=hM k hm
  have h2:s≤k:=h.1
  omega⟩
theorem RepS.Li (h:RepS w (nin (ge s) rs) o n c xs) (hM:∀ b∈M,b< s) (hs:s0≤s):RepS w (nin (ge s0) (rs++M)) o n c xs:=h.Bj fun _ _ hk=>O7 hk hM hs
theorem Own.Li (h:Own w r t (nin (ge s) rs) n c xs) (hM:∀ b∈M,b< s) (hs:s0≤s):Own w r t (nin (ge s0) (rs++M)) n c xs:=h.Bj fun _ _ hk=>O7 hk hM hs
end
end Go.Proofs.YtcginoabkicdiaaGreat
namespace Go.Proofs.YtcginoabkicdiaaGreat
section
variable {α:Type} [Rep α] {w:World} {F:Nat→Prop} {a:Option Addr} {n c l h:Nat} {xs:List α}
theorem RepS.sub (hr:RepS w F a n c xs) (hlh:l≤h) (hh:h≤n):RepS w F (if c=l then a else a.map (·.add (l * Rep.sz α))) (h - l) (c - l) ((xs.take h).drop l):=by
 have hlen:=hr.len
 have hle:=hr.le
 by_cases he:h=l
 ·subst he
  rw [Nat.sub_self,List.drop_of_length_le (by rw [List.length_take]; omega)]
  exact RepS.Bv _ _ _ _ (by have:=hr.cap; omega)
 ·have hcl:c≠l:=by omega
  rw [if_neg hcl]
  have ha:=hr.addr AB
  have hsome:(a.map (·.add (l * Rep.sz α)))=some ⟨blk a,off a+l * Rep.sz α,none⟩:=by
   rw [ha]
   simp [add_lit,blk,off]
  rw [hsome]
  refine ⟨by rw [List.length_drop,List.length_take]; omega,by omega,by have:=hr.cap; omega,fun _=>rfl,fun _=>hr.inF AB,fun i x hx=>?_⟩
  rw [List.getElem?_drop,List.getElem?_take] at hx
  split at hx
  ·obtain ⟨cs,h1,h2⟩:=hr.elem (l+i) x hx
   refine ⟨cs,h1,?_⟩
   have:off (some (⟨blk a,off a+l * Rep.sz α,none⟩:Addr))+i * Rep.sz α=off a+(l+i) * Rep.sz α:=by
    simp only [off,Nat.add_mul]
    omega
   rw [this]
   exact h2
  ·cases hx
end
section
variable {P:Program}
def OL (P:Program) (t:TypeId):Bool:=match P.underlying t with | some .string=>true | _=>false
theorem Jk {t:TypeId}(h:OL P t=true):P.underlying t=some .string:=by
 unfold OL at h; split at h <;> simp_all
theorem O8 {t:TypeId}{s:Str}{k:IntKind}{i:Int}{x:UInt8}(i':Nat) (ht:OL P t=true) (hi:i=(i':Int)) (hx:s[i']? = some x) (w:World) :
 (Instr.index t (.string (bs s)) (.int k i)).run P w=.ok (.int .u8 (x.toNat:Int)) w:=by
 subst hi
 have hu:=Jk ht
 have hs:(bs s)[i']? = some x:=by
  obtain ⟨h1,h2⟩:=List.getElem?_eq_some_iff.1 hx
  have h3:i'< (bs s).size:=by rw [LG]; exact h1
  rw [getElem?_pos (bs s) i' h3]
  congr 1
 unfold Instr.index
 have h1:(asIntOf (.int k (i':Int))).run P w=.ok (k,(i':Int)) w:=rfl
 rw [AZ h1]
 simp only []
 rw [AZ (show (underlying t).run P w=.ok .string w by simp [underlying,hu,go_sem])]
 simp [hs,go_sem]
theorem RL {t:TypeId}{x y:Operand}{s u:Str}(h:s.length+u.length≤9000000000000000000) (w:World) :
 (do eqGuard .add t x y (.string (bs s)) (.string (bs u)); binOp .add t (.string (bs s)) (.string (bs u))).run P w=.ok (.string (bs (s++u))) w:=by
 have h1:(eqGuard .add t x y (.string (bs s)) (.string (bs u))).run P w=.ok () w:=rfl
 rw [AZ h1]
 have hle:¬ (((bs s).size+(bs u).size:Nat):Int) > IntKind.i64.max:=by
  rw [LG,LG]
  have:IntKind.i64.max=9223372036854775807:=by decide
  rw [this]
  omega
 simp only [binOp,Op.stringOp,if_neg hle]
 rw [Xn]
 rfl
theorem RM {t:TypeId}{x y:Operand}{a b:Int}(hb:b≠0) (hr:-9223372036854775808≤a.tdiv b∧a.tdiv b≤9223372036854775807) (w:World) :
 (do eqGuard .quo t x y (.int .i64 a) (.int .i64 b); binOp .quo t (.int .i64 a) (.int .i64 b)).run P w=.ok (.int .i64 (a.tdiv b)) w:=by
 have h1:(eqGuard .quo t x y (.int .i64 a) (.int .i64 b)).run P w=.ok () w:=rfl
 rw [AZ h1]
 simp [binOp,Op.intDiv,hb,go_sem,IntWalk.i64_in _ hr]
def bnd (o:Option Value) (d l:Nat):Prop:=o=none∧l=d∨∃ k i,o=some (.int k i)∧i=(l:Int)
theorem Eb {k:IntKind}{i:Int}{l y:Nat}{code:BoundsCode}(hi:i=(l:Int)) (hl:l≤y) (w:World):(Instr.sliceBound (.int k i) y code).run P w=.ok l w:=by
 subst hi
 unfold Instr.sliceBound
 have h1:(asIntOf (.int k (l:Int))).run P w=.ok (k,(l:Int)) w:=rfl
 rw [AZ h1]
 have h2:(0:Int)≤(l:Int)∧(l:Int)≤(y:Int):=by omega
 simp only [h2,and_self,if_true]
 simp [go_sem]
theorem QS {b:Bool}{len cap l h:Nat}{lo hi:Option Value}(hlo:bnd lo 0 l) (hhi:bnd hi len h) (hlh:l≤h) (hh:h≤cap) (w:World) :
 (Instr.sliceBounds b len cap lo hi none).run P w=.ok (l,h,cap) w:=by
 unfold Instr.sliceBounds
 rcases hlo with ⟨rfl,rfl⟩ | ⟨k,i,rfl,hi1⟩ <;> rcases hhi with ⟨rfl,rfl⟩ | ⟨k2,i2,rfl,hi2⟩
 ·simp [go_sem]
 ·simp only [pure_bind]
  rw [AZ (Eb hi2 hh w)]
  simp [go_sem]
 ·simp only [pure_bind]
  rw [AZ (Eb hi1 hlh w)]
  simp [go_sem]
 ·simp only [pure_bind]
  rw [AZ (Eb hi2 hh w),AZ (Eb hi1 hlh w)]
  simp [go_sem]
def Kl (P:Program) (t:TypeId) (sz:Nat):Bool:=match P.underlying t with | some (.slice e)=>(match P.info? e with | some i=>Nat.beq i.size sz | none=>false) | _=>false
theorem Hp {t:TypeId}{sz:Nat}{a:Option Addr}{len cap l h:Nat}{lo hi:Option Value}(ht:Kl P t sz=true) (hlo:bnd lo 0 l) (hhi:bnd hi len h) (hlh:l≤h) (hh:h≤cap) (w:World) :
 (Instr.sliceAt t (.slice a len cap) lo hi none).run P w=.ok (.slice (if cap=l then a else a.map (·.add (l * sz))) (h - l) (cap - l)) w:=by
 unfold Kl at ht
 split at ht
 ·rename_i e hu
  split at ht
  ·rename_i i hi'
   have hsz:=Nat.eq_of_beq_eq_true ht
   have hun:(underlying t).run P w=.ok (.slice e) w:=by simp [underlying,hu,go_sem]
   unfold Instr.sliceAt
   rw [AZ hun]
   simp only []
   unfold Instr.slice
   rw [AZ hun]
   simp only []
   rw [AZ (QS (P:=P) (b:=true) hlo hhi hlh hh w)]
   simp only []
   rw [AZ (show (sizeOf e).run P w=.ok i.size w by simp [sizeOf,typeInfo,hi',go_sem])]
   rw [hsz]
   rfl
  ·cases ht
 ·cases ht
def Mw (P:Program) (t:TypeId):Bool :=
 (match P.underlying t with
  | some (.struct fs) => (match fs.toList with
    | [f,g]=>f.name != "_" && g.name != "_" && OL P f.type&&OL P g.type&&Nat.beq f.offset 0&&Nat.beq g.offset 1
    | _=>false)
  | _=>false) && !P.stoodInHeld t && !P.eqGuardType P.depth t
theorem IK {d:Nat}{t:TypeId}{s u:Str}(ht:OL P t=true) (w:World):(Op.equalIn (d+1) t (.string (bs s)) (.string (bs u))).run P w=.ok (s==u) w:=by
 have hu:=Jk ht
 have hun:(underlying t).run P w=.ok .string w:=by simp [underlying,hu,go_sem]
 unfold Op.equalIn
 rw [AZ hun]
 simp only []
 rw [Xp]
 rfl
theorem E4 {t:TypeId}{cs:Array Value}{o:Nat}{v:Value}(ht:OL P t=true) (hv:cs[o]? = some v) (w:World):(part t cs o).run P w=.ok v w:=by
 have hu:=Jk ht
 have hsc:Bp P t=true:=by unfold Bp; rw [hu]
 unfold part
 rw [AZ (Dg hsc w)]
 simp [hv,go_sem]
theorem Ie {t:TypeId}{op:BinOp}{x y:Operand}{cs cs':Array Value}(ht:(!P.eqGuardType P.depth t)=true) (w:World):(eqGuard op t x y (.agg cs) (.agg cs')).run P w=.ok () w:=by
 simp only [Bool.not_eq_true'] at ht
 unfold eqGuard
 cases op <;> simp [ht,go_sem,run_program]
theorem IL {t:TypeId}{k v k' v':Str}(ht:Mw P t=true) (w:World) :
 (Op.equal t (.agg #[.string (bs k),.string (bs v)]) (.agg #[.string (bs k'),.string (bs v')])).run P w=.ok (k==k'&&v==v') w:=by
 unfold Mw at ht
 simp only [AW,Bool.not_eq_true'] at ht
 obtain ⟨⟨h1,h2⟩,h3⟩:=ht
 split at h1
 ·rename_i fs hu
  split at h1
  ·rename_i f g hfg
   simp only [AW] at h1
   obtain ⟨⟨⟨⟨⟨a1,a2⟩,a3⟩,a4⟩,a5⟩,a6⟩:=h1
   have a5':=Nat.eq_of_beq_eq_true a5
   have a6':=Nat.eq_of_beq_eq_true a6
   have hun:(underlying t).run P w=.ok (.struct fs) w:=by simp [underlying,hu,go_sem]
   have hfs:fs = #[f,g]:=Array.toList_inj.1 (by simpa using hfg)
   subst hfs
   unfold Op.equal
   rw [show Op.maxDepth=9999+1 from rfl]
   unfold Op.equalIn
   rw [AZ hun]
   simp only []
   have hp:(program:Sem Program).run P w=.ok P w:=run_program P w
   rw [AZ hp]
   simp only [h2,Bool.false_eq_true,if_false]
   have e1:=fun (w:World)=>E4 (P:=P) (t:=f.type) (cs:=#[.string (bs k),.string (bs v)]) (o:=f.offset) (v:=.string (bs k)) a3 (by rw [a5']; rfl) w
   have e2:=fun (w:World)=>E4 (P:=P) (t:=f.type) (cs:=#[.string (bs k'),.string (bs v')]) (o:=f.offset) (v:=.string (bs k')) a3 (by rw [a5']; rfl) w
   have e3:=fun (w:World)=>E4 (P:=P) (t:=g.type) (cs:=#[.string (bs k),.string (bs v)]) (o:=g.offset) (v:=.string (bs v)) a4 (by rw [a6']; rfl) w
   have e4:=fun (w:World)=>E4 (P:=P) (t:=g.type) (cs:=#[.string (bs k'),.string (bs v')]) (o:=g.offset) (v:=.string (bs v')) a4 (by rw [a6']; rfl) w
   have e5:=IK (P:=P) (d:=9998) (t:=f.type) (s:=k) (u:=k') a3
   have e6:=IK (P:=P) (d:=9998) (t:=g.type) (s:=v) (u:=v') a4
   have c1:(f.name ≠ "_")=True:=by simpa using a1
   have c2:(g.name ≠ "_")=True:=by simpa using a2
   simp only [List.forIn_toArray,Array.forIn_toList,List.forIn_cons,List.forIn_nil,c1,c2,if_true,bind_assoc]
   rw [AZ (e1 w),AZ (e2 w),AZ (e5 w)]
   cases hk:(k==k') with
   | false=>simp [go_sem]
   | true =>
     simp only [Bool.not_true,Bool.false_eq_true,if_false,pure_bind,bind_assoc]
     rw [AZ (e3 w),AZ (e4 w),AZ (e6 w)]
     cases hv:(v==v') <;> simp [go_sem]
  ·cases h1
 ·cases h1
def SF (P:Program) (t:TypeId):Bool:=match P.underlying t with | some (.int _)=>true | _=>false
def O9 (P:Program) (t:TypeId):Bool :=
 (match P.underlying t with
  | some (.struct fs) => (match fs.toList with
    | [f,g]=>f.name != "_" && g.name != "_" && SF P f.type&&SF P g.type&&Nat.beq f.offset 0&&Nat.beq g.offset 1
    | _=>false)
  | _=>false) && !P.stoodInHeld t && !P.eqGuardType P.depth t
theorem IM {d:Nat}{t:TypeId}{s u:Int}(ht:SF P t=true) (w:World):(Op.equalIn (d+1) t (.int .i64 s) (.int .i64 u)).run P w=.ok (s==u) w:=by
 unfold SF at ht
 split at ht
 ·rename_i k hu
  have hun:(underlying t).run P w=.ok (.int k) w:=by simp [underlying,hu,go_sem]
  unfold Op.equalIn
  rw [AZ hun]
  simp [go_sem]
 ·cases ht
theorem E5 {t:TypeId}{cs:Array Value}{o:Nat}{v:Value}(ht:SF P t=true) (hv:cs[o]? = some v) (w:World):(part t cs o).run P w=.ok v w:=by
 unfold SF at ht
 split at ht
 ·rename_i k hu
  have hsc:Bp P t=true:=by unfold Bp; rw [hu]
  unfold part
  rw [AZ (Dg hsc w)]
  simp [hv,go_sem]
 ·cases ht
theorem Km {d:Nat}{t:TypeId}{k v k' v':Int}(ht:O9 P t=true) (w:World) :
 (Op.equalIn (d+2) t (.agg #[.int .i64 k,.int .i64 v]) (.agg #[.int .i64 k',.int .i64 v'])).run P w=.ok (k==k'&&v==v') w:=by
 unfold O9 at ht
 simp only [AW,Bool.not_eq_true'] at ht
 obtain ⟨⟨h1,h2⟩,h3⟩:=ht
 split at h1
 ·rename_i fs hu
  split at h1
  ·rename_i f g hfg
   simp only [AW] at h1
   obtain ⟨⟨⟨⟨⟨a1,a2⟩,a3⟩,a4⟩,a5⟩,a6⟩:=h1
   have a5':=Nat.eq_of_beq_eq_true a5
   have a6':=Nat.eq_of_beq_eq_true a6
   have hun:(underlying t).run P w=.ok (.struct fs) w:=by simp [underlying,hu,go_sem]
   have hfs:fs = #[f,g]:=Array.toList_inj.1 (by simpa using hfg)
   subst hfs
   unfold Op.equalIn
   rw [AZ hun]
   simp only []
   have hp:(program:Sem Program).run P w=.ok P w:=run_program P w
   rw [AZ hp]
   simp only [h2,Bool.false_eq_true,if_false]
   have e1:=fun (w:World)=>E5 (P:=P) (t:=f.type) (cs:=#[.int .i64 k,.int .i64 v]) (o:=f.offset) (v:=.int .i64 k) a3 (by rw [a5']; rfl) w
   have e2:=fun (w:World)=>E5 (P:=P) (t:=f.type) (cs:=#[.int .i64 k',.int .i64 v']) (o:=f.offset) (v:=.int .i64 k') a3 (by rw [a5']; rfl) w
   have e3:=fun (w:World)=>E5 (P:=P) (t:=g.type) (cs:=#[.int .i64 k,.int .i64 v]) (o:=g.offset) (v:=.int .i64 v) a4 (by rw [a6']; rfl) w
   have e4:=fun (w:World)=>E5 (P:=P) (t:=g.type) (cs:=#[.int .i64 k',.int .i64 v']) (o:=g.offset) (v:=.int .i64 v') a4 (by rw [a6']; rfl) w
   have e5:=IM (P:=P) (d:=d) (t:=f.type) (s:=k) (u:=k') a3
   have e6:=IM (P:=P) (d:=d) (t:=g.type) (s:=v) (u:=v') a4
   have c1:(f.name ≠ "_")=True:=by simpa using a1
   have c2:(g.name ≠ "_")=True:=by simpa using a2
   simp only [List.forIn_toArray,Array.forIn_toList,List.forIn_cons,List.forIn_nil,c1,c2,if_true,bind_assoc]
   rw [AZ (e1 w),AZ (e2 w),AZ (e5 w)]
   cases hk:(k==k') with
   | false=>simp [go_sem]
   | true =>
     simp only [Bool.not_true,Bool.false_eq_true,if_false,pure_bind,bind_assoc]
     rw [AZ (e3 w),AZ (e4 w),AZ (e6 w)]
     cases hv:(v==v') <;> simp [go_sem]
  ·cases h1
 ·cases h1
theorem Mx {t:TypeId}{k v k' v':Int}(ht:O9 P t=true) (w:World) :
 (Op.equal t (.agg #[.int .i64 k,.int .i64 v]) (.agg #[.int .i64 k',.int .i64 v'])).run P w=.ok (k==k'&&v==v') w:=Km (d:=9998) ht w
theorem TF {t:TypeId}(h:Mw P t=true):(!P.eqGuardType P.depth t)=true:=by unfold Mw at h; simp only [AW] at h; exact h.2
theorem Xt {t:TypeId}(h:O9 P t=true):(!P.eqGuardType P.depth t)=true:=by unfold O9 at h; simp only [AW] at h; exact h.2
theorem NS {t:TypeId}{x y:Operand}{k v k' v':Str}(ht:Mw P t=true) (w:World) :
 (do eqGuard .eql t x y (.agg #[.string (bs k),.string (bs v)]) (.agg #[.string (bs k'),.string (bs v')]); binOp .eql t (.agg #[.string (bs k),.string (bs v)]) (.agg #[.string (bs k'),.string (bs v')])).run P w
  = .ok (.bool (k==k'&&v==v')) w:=by
 rw [AZ (Ie (TF ht) w)]
 simp only [binOp]
 rw [AZ (IL ht w)]
 rfl
theorem NT {t:TypeId}{x y:Operand}{k v k' v':Str}(ht:Mw P t=true) (w:World) :
 (do eqGuard .neq t x y (.agg #[.string (bs k),.string (bs v)]) (.agg #[.string (bs k'),.string (bs v')]); binOp .neq t (.agg #[.string (bs k),.string (bs v)]) (.agg #[.string (bs k'),.string (bs v')])).run P w
  = .ok (.bool (!(k==k'&&v==v'))) w:=by
 rw [AZ (Ie (TF ht) w)]
 simp only [binOp]
 rw [AZ (IL ht w)]
 rfl
theorem NU {t:TypeId}{x y:Operand}{k v k' v':Int}(ht:O9 P t=true) (w:World) :
 (do eqGuard .neq t x y (.agg #[.int .i64 k,.int .i64 v]) (.agg #[.int .i64 k',.int .i64 v']); binOp .neq t (.agg #[.int .i64 k,.int .i64 v]) (.agg #[.int .i64 k',.int .i64 v'])).run P w
  = .ok (.bool (!(k==k'&&v==v'))) w:=by
 rw [AZ (Ie (Xt ht) w)]
 simp only [binOp]
 rw [AZ (Mx ht w)]
 rfl
theorem RN (x y:Row):(x==y)=(x.t==y.t&&x.v==y.v):=by
 rw [Bool.eq_iff_iff]
 simp only [beq_iff_eq,AW]
 constructor
 ·rintro rfl; exact ⟨rfl,rfl⟩
 ·rintro ⟨h1,h2⟩; cases x; cases y; simp_all
theorem LI (x y:Tag):(x==y)=(x.key==y.key&&x.val==y.val):=by
 rw [Bool.eq_iff_iff]
 simp only [beq_iff_eq,AW]
 constructor
 ·rintro rfl; exact ⟨rfl,rfl⟩
 ·rintro ⟨h1,h2⟩; cases x; cases y; simp_all
def G8 (n:Nat) (ops:Array Oper) (j:Nat) (e:Env):Option (BinOp × TypeId × Value × Value) :=
 bif CC n ops j e then
  match (Ad ops j).op with
  | .binOp op t x y _=>some (op,t,ev e x,ev e y)
  | _=>none
 else none
def QT (n:Nat) (ops:Array Oper) (j:Nat) (e:Env):Option (TypeId × Value × Value) :=
 bif CC n ops j e then
  match (Ad ops j).op with
  | .index t x y=>some (t,ev e x,ev e y)
  | _=>none
 else none
def Db (n:Nat) (ops:Array Oper) (j:Nat) (e:Env):Option (TypeId × Value × Option Value × Option Value) :=
 bif CC n ops j e then
  match (Ad ops j).op with
  | .slice t x lo hi none=>some (t,ev e x,lo.map (ev e),hi.map (ev e))
  | _=>none
 else none
theorem Ei {n:Nat}{ops:Array Oper}{j:Nat}{e:Env}{op:BinOp}{t:TypeId}{a b v:Value}{w:World}(h:G8 n ops j e=some (op,t,a,b))
 (hr:∀ x y,(do eqGuard op t x y a b; binOp op t a b).run P w=.ok v w):CC n ops j e=true∧(execOp (ev e) (Ad ops j)).run P w=.ok (.value v) w:=by
 obtain ⟨hg,h⟩:=CG h
 refine ⟨hg,?_⟩
 split at h
 ·rename_i op' t' x y z hop
  simp only [Option.some.injEq,Prod.mk.injEq] at h
  obtain ⟨rfl,rfl,rfl,rfl⟩:=h
  simp only [execOp,hop]
  exact AZ (hr x y)
 ·cases h
theorem Lj {n:Nat}{ops:Array Oper}{j:Nat}{e:Env}{t:TypeId}{a b v:Value}{w:World}(h:QT n ops j e=some (t,a,b))
 (hr:(Instr.index t a b).run P w=.ok v w):CC n ops j e=true∧(execOp (ev e) (Ad ops j)).run P w=.ok (.value v) w:=by
 obtain ⟨hg,h⟩:=CG h
 refine ⟨hg,?_⟩
 split at h
 ·rename_i t' x y hop
  simp only [Option.some.injEq,Prod.mk.injEq] at h
  obtain ⟨rfl,rfl,rfl⟩:=h
  simp only [execOp,hop]
  exact AZ hr
 ·cases h
theorem FC {n:Nat}{ops:Array Oper}{j:Nat}{e:Env}{t:TypeId}{a v:Value}{lo hi:Option Value}{w:World}(h:Db n ops j e=some (t,a,lo,hi))
 (hr:(Instr.sliceAt t a lo hi none).run P w=.ok v w):CC n ops j e=true∧(execOp (ev e) (Ad ops j)).run P w=.ok (.value v) w:=by
 obtain ⟨hg,h⟩:=CG h
 refine ⟨hg,?_⟩
 split at h
 ·rename_i t' x lo' hi' hop
  simp only [Option.some.injEq,Prod.mk.injEq] at h
  obtain ⟨rfl,rfl,rfl,rfl⟩:=h
  simp only [execOp,hop]
  exact AZ hr
 ·cases h
end
section
variable {P:Program} {n:Nat} {K:Env→World→Prop} {ops:Array Oper} {j:Nat} {e:Env} {w:World}
theorem RG.cat {t:TypeId}{s u:Str}(h:G8 n ops j e=some (.add,t,.string (bs s),.string (bs u))) (hl:s.length+u.length≤9000000000000000000)
 (H:RG P n K ops (j+1) (Ag e (Ad ops j).dst (.string (bs (s++u)))) w):RG P n K ops j e w :=
 have h1:=Ei (P:=P) (w:=w) h (fun _ _=>RL hl w)
 RG.val h1.1 h1.2 H
theorem RG.RO {t:TypeId}{x y:Tag}(h:G8 n ops j e=some (.eql,t,.agg #[.string (bs x.key),.string (bs x.val)],.agg #[.string (bs y.key),.string (bs y.val)])) (ht:Mw P t=true)
 (H:RG P n K ops (j+1) (Ag e (Ad ops j).dst (.bool (x==y))) w):RG P n K ops j e w :=
 have h1:=Ei (P:=P) (w:=w) h (fun _ _=>NS ht w)
 RG.val h1.1 (by rw [LI]; exact h1.2) H
theorem RG.XD {t:TypeId}{x y:Tag}(h:G8 n ops j e=some (.neq,t,.agg #[.string (bs x.key),.string (bs x.val)],.agg #[.string (bs y.key),.string (bs y.val)])) (ht:Mw P t=true)
 (H:RG P n K ops (j+1) (Ag e (Ad ops j).dst (.bool (!(x==y)))) w):RG P n K ops j e w :=
 have h1:=Ei (P:=P) (w:=w) h (fun _ _=>NT ht w)
 RG.val h1.1 (by rw [LI]; exact h1.2) H
theorem RG.XE {t:TypeId}{x y:Row}(h:G8 n ops j e=some (.neq,t,.agg #[.int .i64 x.t,.int .i64 x.v],.agg #[.int .i64 y.t,.int .i64 y.v])) (ht:O9 P t=true)
 (H:RG P n K ops (j+1) (Ag e (Ad ops j).dst (.bool (!(x==y)))) w):RG P n K ops j e w :=
 have h1:=Ei (P:=P) (w:=w) h (fun _ _=>NU ht w)
 RG.val h1.1 (by rw [RN]; exact h1.2) H
theorem RG.quo {t:TypeId}{a b:Int}(h:G8 n ops j e=some (.quo,t,.int .i64 a,.int .i64 b)) (hb:b≠0) (hr:-9223372036854775808≤a.tdiv b∧a.tdiv b≤9223372036854775807)
 (H:RG P n K ops (j+1) (Ag e (Ad ops j).dst (.int .i64 (a.tdiv b))) w):RG P n K ops j e w :=
 have h1:=Ei (P:=P) (w:=w) h (fun _ _=>RM hb hr w)
 RG.val h1.1 h1.2 H
theorem RG.Xu {t:TypeId}{s:Str}{k:IntKind}{i:Int}{x:UInt8}(i':Nat) (h:QT n ops j e=some (t,.string (bs s),.int k i)) (ht:OL P t=true) (hi:i=(i':Int)) (hx:s[i']? = some x)
 (H:RG P n K ops (j+1) (Ag e (Ad ops j).dst (.int .u8 (x.toNat:Int))) w):RG P n K ops j e w :=
 have h1:=Lj h (O8 i' ht hi hx w)
 RG.val h1.1 h1.2 H
theorem RG.sub {α:Type}[Rep α] {F:Nat→Prop}{xs:List α}{t:TypeId}{a:Option Addr}{len cap:Nat}{lo hi:Option Value}(hr:RepS w F a len cap xs) (l h':Nat) (h:Db n ops j e=some (t,.slice a len cap,lo,hi)) (ht:Kl P t (Rep.sz α)=true) (hlo:bnd lo 0 l) (hhi:bnd hi len h') (hlh:l≤h') (hh:h'≤len)
 (H:∀ a' c',RepS w F a' (h' - l) c' ((xs.take h').drop l)→RG P n K ops (j+1) (Ag e (Ad ops j).dst (.slice a' (h' - l) c')) w):RG P n K ops j e w :=
 have h1:=FC h (Hp ht hlo hhi hlh (Nat.le_trans hh hr.le) w)
 RG.val h1.1 h1.2 (H _ _ (hr.sub hlh hh))
end
section
variable {P:Program} {S:Nat→Prop} {n m:Nat} {L:Env→World→Prop} {ops:Array Oper} {l:List Nat} {e:Env} {w:World}
def gB (n m:Nat) (ops:Array Oper) (l:List Nat) (i:Nat):Bool:=Cr n m ops l i&&EA ops l i
theorem GA.OM {i:Nat}{v:Value}(hb:gB n m ops l i=true) (hy:∀ w1:World,CC n ops i e=true∧(execOp (ev e) (Ad ops i)).run P w1=.ok (.value v) w1) (H:GA P S n m L ops (i::l) (Ag e (Ad ops i).dst v) w):GA P S n m L ops l e w :=
 GA.det (by unfold gB at hb; rw [hb,(hy w).1]; rfl) (fun w1 _=>(hy w1).2) H
theorem GA.sub {α:Type}[Rep α] {F:Nat→Prop}{xs:List α}{i:Nat}{t:TypeId}{a:Option Addr}{len cap:Nat}{lo hi:Option Value}(hb:gB n m ops l i=true) (hr:RepS w F a len cap xs) (l' h':Nat) (h:Db n ops i e=some (t,.slice a len cap,lo,hi)) (ht:Kl P t (Rep.sz α)=true) (hlo:bnd lo 0 l') (hhi:bnd hi len h') (hlh:l'≤h') (hh:h'≤len)
 (H:∀ a' c',RepS w F a' (h' - l') c' ((xs.take h').drop l')→GA P S n m L ops (i::l) (Ag e (Ad ops i).dst (.slice a' (h' - l') c')) w):GA P S n m L ops l e w :=
 GA.OM hb (fun w=>FC h (Hp ht hlo hhi hlh (Nat.le_trans hh hr.le) w)) (H _ _ (hr.sub hlh hh))
theorem GA.cat {i:Nat}{t:TypeId}{s u:Str}(hb:gB n m ops l i=true) (h:G8 n ops i e=some (.add,t,.string (bs s),.string (bs u))) (hl:s.length+u.length≤9000000000000000000)
 (H:GA P S n m L ops (i::l) (Ag e (Ad ops i).dst (.string (bs (s++u)))) w):GA P S n m L ops l e w :=
 GA.OM hb (fun w=>Ei h (fun _ _=>RL hl w)) H
theorem GA.RO {i:Nat}{t:TypeId}{x y:Tag}(hb:gB n m ops l i=true) (h:G8 n ops i e=some (.eql,t,.agg #[.string (bs x.key),.string (bs x.val)],.agg #[.string (bs y.key),.string (bs y.val)])) (ht:Mw P t=true)
 (H:GA P S n m L ops (i::l) (Ag e (Ad ops i).dst (.bool (x==y))) w):GA P S n m L ops l e w :=
 GA.OM hb (fun w=>by rw [LI]; exact Ei h (fun _ _=>NS ht w)) H
theorem GA.XD {i:Nat}{t:TypeId}{x y:Tag}(hb:gB n m ops l i=true) (h:G8 n ops i e=some (.neq,t,.agg #[.string (bs x.key),.string (bs x.val)],.agg #[.string (bs y.key),.string (bs y.val)])) (ht:Mw P t=true)
 (H:GA P S n m L ops (i::l) (Ag e (Ad ops i).dst (.bool (!(x==y)))) w):GA P S n m L ops l e w :=
 GA.OM hb (fun w=>by rw [LI]; exact Ei h (fun _ _=>NT ht w)) H
theorem GA.XE {i:Nat}{t:TypeId}{x y:Row}(hb:gB n m ops l i=true) (h:G8 n ops i e=some (.neq,t,.agg #[.int .i64 x.t,.int .i64 x.v],.agg #[.int .i64 y.t,.int .i64 y.v])) (ht:O9 P t=true)
 (H:GA P S n m L ops (i::l) (Ag e (Ad ops i).dst (.bool (!(x==y)))) w):GA P S n m L ops l e w :=
 GA.OM hb (fun w=>by rw [RN]; exact Ei h (fun _ _=>NU ht w)) H
theorem GA.Xu {i:Nat}{t:TypeId}{s:Str}{k:IntKind}{z:Int}{x:UInt8}(hb:gB n m ops l i=true) (i':Nat) (h:QT n ops i e=some (t,.string (bs s),.int k z)) (ht:OL P t=true) (hi:z=(i':Int)) (hx:s[i']? = some x)
 (H:GA P S n m L ops (i::l) (Ag e (Ad ops i).dst (.int .u8 (x.toNat:Int))) w):GA P S n m L ops l e w :=
 GA.OM hb (fun w=>Lj h (O8 i' ht hi hx w)) H
end
end Go.Proofs.YtcginoabkicdiaaGreat
namespace Go.Proofs.YtcginoabkicdiaaGreat
@[reducible] def vS (b n c:Nat):Value:=.slice (some ⟨b,0,none⟩) n c
@[reducible] def vI (z:Int):Value:=.int .i64 z
@[reducible] def vT (s:Str):Value:=.string (bs s)
def ldT (o:Option (TypeId × Addr)):TypeId:=match o with | some (t,_)=>t | none=>0
def ldO (o:Option (TypeId × Addr)):Nat:=match o with | some (_,a)=>off (some a) | none=>0
def ldV (cs:List Value) (o:Option (TypeId × Addr)):Value:=(cs[ldO o]?).getD undef
def ldN (P:Program) (o:Option (TypeId × Addr)):Nat:=match P.info? (ldT o) with | some i=>i.size | none=>0
def ldL (P:Program) (cs:List Value) (o:Option (TypeId × Addr)):List Value:=(cs.drop (ldO o)).take (ldN P o)
def ldH (P:Program) (cs:List Value) (k:Nat) (o:Option (TypeId × Addr)):List Value:=(cs.drop k).take (ldN P o)
def stT (o:Option (TypeId × Addr × Value)):TypeId:=match o with | some (t,_)=>t | none=>0
def lbE (cs:List Value) (n:Nat) (ops:Array Oper) (j:Nat) (e:Env):Env:=Ag e (Ad ops j).dst (ldV cs (loadAt n ops j e))
def lnE (P:Program) (cs:List Value) (n:Nat) (ops:Array Oper) (j:Nat) (e:Env):Env:=Ag e (Ad ops j).dst (.agg (ldL P cs (loadAt n ops j e)).toArray)
def lgE (P:Program) (cs:List Value) (k n:Nat) (ops:Array Oper) (j:Nat) (e:Env):Env:=Ag e (Ad ops j).dst (.agg (ldH P cs k (loadAt n ops j e)).toArray)
def lbG (cs:List Value) (n m:Nat) (ops:Array Oper) (l:List Nat) (i:Nat) (e:Env):Env:=Ag e (Ad ops i).dst (ldV cs (BR n m ops l i e))
def lnG (P:Program) (cs:List Value) (n m:Nat) (ops:Array Oper) (l:List Nat) (i:Nat) (e:Env):Env:=Ag e (Ad ops i).dst (.agg (ldL P cs (BR n m ops l i e)).toArray)
def lgG (P:Program) (cs:List Value) (k n m:Nat) (ops:Array Oper) (l:List Nat) (i:Nat) (e:Env):Env:=Ag e (Ad ops i).dst (.agg (ldH P cs k (BR n m ops l i e)).toArray)
section
variable {P:Program} {n:Nat} {K:Env→World→Prop} {ops:Array Oper} {j:Nat} {e:Env} {w:World} {t t':TypeId} {b o:Nat} {cs:List Value} {v:Value}
theorem RG.r (m:Nat) (H:RG P n K ops (j+m) (Xk P ops m j e) w) (h:RC P n ops m j e=true:=by kernel_rfl):RG P n K ops j e w:=RG.run m h H
theorem RG.d (H:K e w) (h:Nat.beq ops.toList.length j=true:=by kernel_rfl):RG P n K ops j e w:=RG.done h H
theorem RG.lb (hb:Box w b t cs) (H:RG P n K ops (j+1) (lbE cs n ops j e) w)
 (h:loadAt n ops j e=some (ldT (loadAt n ops j e),⟨b,ldO (loadAt n ops j e),none⟩):=by kernel_rfl)
 (hs:Bp P (ldT (loadAt n ops j e))=true:=by kernel_rfl) (hv:cs[ldO (loadAt n ops j e)]? = some (ldV cs (loadAt n ops j e)):=by kernel_rfl):RG P n K ops j e w :=
 RG.KY hb h hs hv H
theorem RG.ln (hb:Box w b t cs) (H:RG P n K ops (j+1) (lnE P cs n ops j e) w)
 (h:loadAt n ops j e=some (ldT (loadAt n ops j e),⟨b,ldO (loadAt n ops j e),none⟩):=by kernel_rfl)
 (hs:F3 P (ldT (loadAt n ops j e)) (ldL P cs (loadAt n ops j e)).length=true:=by kernel_rfl)
 (hv:(cs.drop (ldO (loadAt n ops j e))).take (ldL P cs (loadAt n ops j e)).length=ldL P cs (loadAt n ops j e):=by kernel_rfl):RG P n K ops j e w :=
 RG.QL _ hb h hs hv H
theorem RG.lh (k:Nat) (hc:Has w ⟨b,o,none⟩ cs) (H:RG P n K ops (j+1) (Ag e (Ad ops j).dst ((cs[k]?).getD undef)) w)
 (h:loadAt n ops j e=some (ldT (loadAt n ops j e),⟨b,o+k,none⟩):=by kernel_rfl)
 (hs:Bp P (ldT (loadAt n ops j e))=true:=by kernel_rfl) (hv:cs[k]? = some ((cs[k]?).getD undef):=by kernel_rfl):RG P n K ops j e w :=
 RG.TC k hc h hs hv H
theorem RG.lg (k:Nat) (hc:Has w ⟨b,o,none⟩ cs) (H:RG P n K ops (j+1) (lgE P cs k n ops j e) w)
 (h:loadAt n ops j e=some (ldT (loadAt n ops j e),⟨b,o+k,none⟩):=by kernel_rfl)
 (hs:F3 P (ldT (loadAt n ops j e)) (ldH P cs k (loadAt n ops j e)).length=true:=by kernel_rfl)
 (hv:(cs.drop k).take (ldH P cs k (loadAt n ops j e)).length=ldH P cs k (loadAt n ops j e):=by kernel_rfl):RG P n K ops j e w :=
 RG.OI k _ hc h hs hv H
theorem RG.ss (o:Nat) (v:Value) (hb:Box w b t cs)
 (H:∀ w',Chg (one b) w w'→Box w' b t (cs.set o v)→w'.heap.size=w.heap.size→RG P n K ops (j+1) (Ag e (Ad ops j).dst undef) w')
 (h:storeAt n ops j e=some (stT (storeAt n ops j e),⟨b,o,none⟩,v):=by kernel_rfl)
 (hs:(Da P (stT (storeAt n ops j e)) v.cells.size&&Nat.ble (o+v.cells.size) cs.length&&v.cells.toList.all Cy)=true:=by kernel_rfl)
 (hc:Ay cs o v.cells.toList=cs.set o v:=by kernel_rfl):RG P n K ops j e w:=RG.LY _ hb h hs hc H
theorem RG.sc (vs:List Value) (hb:Box w b t cs)
 (H:∀ w',Chg (one b) w w'→Box w' b t vs→w'.heap.size=w.heap.size→RG P n K ops (j+1) (Ag e (Ad ops j).dst undef) w')
 (h:storeAt n ops j e=some (stT (storeAt n ops j e),⟨b,0,none⟩,.agg vs.toArray):=by kernel_rfl)
 (hs:(Da P (stT (storeAt n ops j e)) (Value.agg vs.toArray).cells.size&&Nat.ble (0+(Value.agg vs.toArray).cells.size) cs.length&&(Value.agg vs.toArray).cells.toList.all Cy)=true:=by kernel_rfl)
 (hc:Ay cs 0 (Value.agg vs.toArray).cells.toList=vs:=by kernel_rfl):RG P n K ops j e w:=RG.LY _ hb h hs hc H
theorem RG.ix {α:Type}[Rep α] {F:Nat→Prop}{a:Option Addr}{m c:Nat}{xs:List α}(i sz:Nat) (hr:RepS w F a m c xs) (hi:i< m)
 (H:RG P n K ops (j+1) (Ag e (Ad ops j).dst (.pointer (some ⟨blk a,off a+i * sz,none⟩))) w) (h:I0 P n ops j e=some (a,m,(i:Int),sz):=by kernel_rfl):RG P n K ops j e w :=
 RG.idx i h rfl hi (hr.addr (Nat.zero_lt_of_lt hi)) H
theorem RG.nw (v:Nat→Value) (t:TypeId) (cs:List Value)
 (H:∀ b w',b=w.heap.size→Ext w w'→Box w' b t cs→w'.heap.size=b+1→RG P n K ops (j+1) (Ag e (Ad ops j).dst (v b)) w')
 (h:∀ b,Bl P n ops j e b=some (v b,t,cs):=by intro _; kernel_rfl):RG P n K ops j e w:=RG.new h H
theorem RG.np (t:TypeId) (cs:List Value)
 (H:∀ b w',b=w.heap.size→Ext w w'→Box w' b t cs→w'.heap.size=b+1→RG P n K ops (j+1) (Ag e (Ad ops j).dst (.pointer (some ⟨b,0,none⟩))) w')
 (h:∀ b,Bl P n ops j e b=some (.pointer (some ⟨b,0,none⟩),t,cs):=by intro _; kernel_rfl):RG P n K ops j e w:=RG.new h H
theorem RG.ns (m:Nat) (t:TypeId) (cs:List Value)
 (H:∀ b w',b=w.heap.size→Ext w w'→Box w' b t cs→w'.heap.size=b+1→RG P n K ops (j+1) (Ag e (Ad ops j).dst (.slice (some ⟨b,0,none⟩) m m)) w')
 (h:∀ b,Bl P n ops j e b=some (.slice (some ⟨b,0,none⟩) m m,t,cs):=by intro _; kernel_rfl):RG P n K ops j e w:=RG.new h H
theorem RG.bp (p:Prop) [Decidable p] (ht:p→RG P n K ops (j+1) (Ag e (Ad ops j).dst (.bool true)) w)
 (hf:¬ p→RG P n K ops (j+1) (Ag e (Ad ops j).dst (.bool false)) w) (h:Iy P n ops j e=some (.bool (decide p)):=by kernel_rfl):RG P n K ops j e w:=RG.Em p h ht hf
theorem RG.eq (a b:Int) (ht:a=b→RG P n K ops (j+1) (Ag e (Ad ops j).dst (.bool true)) w)
 (hf:a≠b→RG P n K ops (j+1) (Ag e (Ad ops j).dst (.bool false)) w) (h:Iy P n ops j e=some (.bool (a==b)):=by kernel_rfl):RG P n K ops j e w:=RG.eqI h ht hf
theorem RG.ne (a b:Int) (ht:a≠b→RG P n K ops (j+1) (Ag e (Ad ops j).dst (.bool true)) w)
 (hf:a=b→RG P n K ops (j+1) (Ag e (Ad ops j).dst (.bool false)) w) (h:Iy P n ops j e=some (.bool (a != b)):=by kernel_rfl):RG P n K ops j e w:=RG.neI h ht hf
theorem RG.it (z:Int) (H:RG P n K ops (j+1) (Ag e (Ad ops j).dst (.int .i64 z)) w) (h:Iy P n ops j e=some (.int .i64 (IntKind.i64.wrap z)):=by kernel_rfl)
 (hz:-9223372036854775808≤z∧z≤9223372036854775807:=by omega):RG P n K ops j e w:=RG.int z h hz H
theorem RG.cl {f:FuncId}{args:List Value}{Q:Value→World→Prop}(hc:Calls P f args.toArray w (Af Q))
 (H:∀ v w',Q v w'→RG P n K ops (j+1) (Ag e (Ad ops j).dst v) w') (h:Bf P n ops j e=some (f,args):=by kernel_rfl):RG P n K ops j e w:=RG.call h hc H
end
section
variable {P:Program} {f:FuncId} {fn:Func} {R:Value→World→Prop} {c:Code} {k:List Item} {e:Env} {w:World} {v:Value}
theorem T.s (H:T P f fn R (.code (lft c) :: .code (rgt c)::k) e w) (h:TA c=true:=by kernel_rfl):T P f fn R (.code c::k) e w:=T.seq h H
theorem T.sk (H:T P f fn R k e w) (h:QK c=true:=by kernel_rfl):T P f fn R (.code c::k) e w:=T.skip h H
theorem T.b (i:Nat) (H:T P f fn R (.code (bdy c) :: .inBlock i::k) e w) (h:OA c i=true:=by kernel_rfl):T P f fn R (.code c::k) e w:=T.block i h H
theorem T.ib (i:Nat) (H:T P f fn R k e w):T P f fn R (.inBlock i::k) e w:=T.inBlock i H
theorem T.x (i:Nat){k':List Item}(hk:exitTo i k=some k') (H:T P f fn R k' e w) (h:QJ c i=true:=by kernel_rfl):T P f fn R (.code c::k) e w:=T.exit i h hk H
theorem T.ct (H:T P f fn R (.code (thn c)::k) e w) (h:Ho e c=.bool true:=by kernel_rfl):T P f fn R (.code c::k) e w:=T.ZB h H
theorem T.cf (H:T P f fn R (.code (els c)::k) e w) (h:Ho e c=.bool false:=by kernel_rfl):T P f fn R (.code c::k) e w:=T.ZC h H
theorem T.g (H:RG P fn.ntmps (fun e' w'=>T P f fn R k e' w') (FG c) 0 e w) (h:G3 c false=true:=by kernel_rfl):T P f fn R (.code c::k) e w:=T.region h H
theorem T.gd (S:Nat→Prop) (m:Nat)
 (H:∀ w1,Ext w w1→GA P S fn.ntmps m (fun e' w'=>RG P fn.ntmps (fun e'' w''=>T P f fn R k e'' w'') (FG c) m e' w') (FG c) [] e w1)
 (h:(G3 c true&&P.follows .mixedOrders&&IJ (FG c) m)=true:=by kernel_rfl):T P f fn R (.code c::k) e w:=T.RH S m h H
theorem T.rt {t:Tmp}(hf:P.funcs[f]? = some fn) (hres:fn.results = #[.tmp t]) (v:Value) (hR:R v w) (h:Fb c=true:=by kernel_rfl) (h1:e t=v:=by kernel_rfl):T P f fn R (.code c::k) e w :=
 T.ZD h hf hres (CK.tmp h1) hR
theorem CK.bx {x t u:Nat}{b:Nat}{cs:List Value}(hb:Box w b u cs) (h1:e x=.pointer (some ⟨b,0,none⟩):=by kernel_rfl) (h2:F3 P t cs.length=true:=by kernel_rfl):CK P w e (.cell x t) (.agg cs.toArray) :=
 CK.cell h1 ((hb.has 0 cs AD).RD h2)
theorem CK.t {t:Tmp}(v:Value) (h:e t=v:=by kernel_rfl):CK P w e (.tmp t) v:=h
theorem T.rb {x t u:Nat}{b:Nat}{cs:List Value}(hf:P.funcs[f]? = some fn) (hres:fn.results = #[.cell x t]) (hb:Box w b u cs) (hR:R (.agg cs.toArray) w) (h:Fb c=true:=by kernel_rfl)
 (h1:e x=.pointer (some ⟨b,0,none⟩):=by kernel_rfl) (h2:F3 P t cs.length=true:=by kernel_rfl):T P f fn R (.code c::k) e w :=
 T.ZD h hf hres (CK.bx hb h1 h2) hR
theorem T.r2 {r r':ResultVar}{v v':Value}(hf:P.funcs[f]? = some fn) (hres:fn.results = #[r,r']) (h1:CK P w e r v) (h2:CK P w e r' v') (hR:R (.tuple #[v,v']) w) (h:Fb c=true:=by kernel_rfl):T P f fn R (.code c::k) e w :=
 T.lK h hf hres h1 h2 hR
theorem T.r3 {r r' r'':ResultVar}{v v' v'':Value}(hf:P.funcs[f]? = some fn) (hres:fn.results = #[r,r',r'']) (h1:CK P w e r v) (h2:CK P w e r' v') (h3:CK P w e r'' v'') (hR:R (.tuple #[v,v',v'']) w) (h:Fb c=true:=by kernel_rfl):T P f fn R (.code c::k) e w :=
 T.l5 h hf hres h1 h2 h3 hR
theorem goT {args:List Value}(hf:P.funcs[f]? = some fn) (H:T P f fn R [.code (TB fn)] (VW args) w) (hb:fn.body=some (TB fn):=by kernel_rfl) (hn:Nat.ble args.length fn.ntmps=true:=by kernel_rfl):Calls P f args.toArray w (Af R) :=
 VY hf hb hn H
end
section
variable {P:Program} {S:Nat→Prop} {n m:Nat} {L:Env→World→Prop} {ops:Array Oper} {l:List Nat} {e:Env} {w:World} {t:TypeId} {b o:Nat} {cs:List Value}
theorem GA.r (is:List Nat) (H:GA P S n m L ops (is.reverse++l) (NO P ops is e) w) (h:Jj P n m ops is l e=true:=by kernel_rfl):GA P S n m L ops l e w:=GA.run is h H
theorem GA.d (H:∀ w1,Ext w w1→L e w1) (h:(Nat.beq l.length m&&Nat.beq (DI l) (DI (List.range m)))=true:=by kernel_rfl):GA P S n m L ops l e w:=GA.done h H
theorem GA.lb (i:Nat) (hb:Box w b t cs) (hS:¬ S b) (H:GA P S n m L ops (i::l) (lbG cs n m ops l i e) w)
 (h:BR n m ops l i e=some (ldT (BR n m ops l i e),⟨b,ldO (BR n m ops l i e),none⟩):=by kernel_rfl)
 (hs:Bp P (ldT (BR n m ops l i e))=true:=by kernel_rfl) (hv:cs[ldO (BR n m ops l i e)]? = some (ldV cs (BR n m ops l i e)):=by kernel_rfl):GA P S n m L ops l e w :=
 GA.KY hb hS h hs hv H
theorem GA.ln (i:Nat) (hb:Box w b t cs) (hS:¬ S b) (H:GA P S n m L ops (i::l) (lnG P cs n m ops l i e) w)
 (h:BR n m ops l i e=some (ldT (BR n m ops l i e),⟨b,ldO (BR n m ops l i e),none⟩):=by kernel_rfl)
 (hs:F3 P (ldT (BR n m ops l i e)) (ldL P cs (BR n m ops l i e)).length=true:=by kernel_rfl)
 (hv:(cs.drop (ldO (BR n m ops l i e))).take (ldL P cs (BR n m ops l i e)).length=ldL P cs (BR n m ops l i e):=by kernel_rfl):GA P S n m L ops l e w :=
 GA.QL _ hb hS h hs hv H
theorem GA.lh (i k:Nat) (hc:Has w ⟨b,o,none⟩ cs) (hS:¬ S b) (H:GA P S n m L ops (i::l) (Ag e (Ad ops i).dst ((cs[k]?).getD undef)) w)
 (h:BR n m ops l i e=some (ldT (BR n m ops l i e),⟨b,o+k,none⟩):=by kernel_rfl)
 (hs:Bp P (ldT (BR n m ops l i e))=true:=by kernel_rfl) (hv:cs[k]? = some ((cs[k]?).getD undef):=by kernel_rfl):GA P S n m L ops l e w :=
 GA.TC k hc hS h hs hv H
theorem GA.lg (i k:Nat) (hc:Has w ⟨b,o,none⟩ cs) (hS:¬ S b) (H:GA P S n m L ops (i::l) (lgG P cs k n m ops l i e) w)
 (h:BR n m ops l i e=some (ldT (BR n m ops l i e),⟨b,o+k,none⟩):=by kernel_rfl)
 (hs:F3 P (ldT (BR n m ops l i e)) (ldH P cs k (BR n m ops l i e)).length=true:=by kernel_rfl)
 (hv:(cs.drop k).take (ldH P cs k (BR n m ops l i e)).length=ldH P cs k (BR n m ops l i e):=by kernel_rfl):GA P S n m L ops l e w :=
 GA.OI k _ hc hS h hs hv H
theorem GA.ix {α:Type}[Rep α] {F:Nat→Prop}{a:Option Addr}{N c:Nat}{xs:List α}(k i sz:Nat) (hr:RepS w F a N c xs) (hi:i< N)
 (H:GA P S n m L ops (k::l) (Ag e (Ad ops k).dst (.pointer (some ⟨blk a,off a+i * sz,none⟩))) w) (h:QP P n m ops l k e=some (a,N,(i:Int),sz):=by kernel_rfl):GA P S n m L ops l e w :=
 GA.idx i h rfl hi (hr.addr (Nat.zero_lt_of_lt hi)) H
theorem GA.go (i:Nat) (H:GE P S n m L ops l i e w) (h:Vb n m ops l i e=true:=by kernel_rfl):GA P S n m L ops l e w:=GE.one h H
theorem GA.tw (i j:Nat) (Hi:GE P S n m L ops l i e w) (Hj:GE P S n m L ops l j e w) (h:Xm n m ops l i j e=true:=by kernel_rfl):GA P S n m L ops l e w:=GE.two h Hi Hj
theorem GE.nw {i:Nat}(v:Nat→Value) (t:TypeId) (cs:List Value)
 (H:∀ w1,Ext w w1→∀ b w2,b=w1.heap.size→Ext w1 w2→Box w2 b t cs→w2.heap.size=b+1→GA P S n m L ops (i::l) (Ag e (Ad ops i).dst (v b)) w2)
 (hn:∀ b,Bl P n ops i e b=some (v b,t,cs):=by intro _; kernel_rfl):GE P S n m L ops l i e w:=GE.new hn H
theorem GE.ns {i:Nat}(k:Nat) (t:TypeId) (cs:List Value)
 (H:∀ w1,Ext w w1→∀ b w2,b=w1.heap.size→Ext w1 w2→Box w2 b t cs→w2.heap.size=b+1→GA P S n m L ops (i::l) (Ag e (Ad ops i).dst (.slice (some ⟨b,0,none⟩) k k)) w2)
 (hn:∀ b,Bl P n ops i e b=some (.slice (some ⟨b,0,none⟩) k k,t,cs):=by intro _; kernel_rfl):GE P S n m L ops l i e w:=GE.new hn H
theorem GE.cl {i:Nat}{f:FuncId}{args:List Value}{Q:World→Value→World→Prop}(hc:∀ w1,Ext w w1→Calls P f args.toArray w1 (Af (Q w1)))
 (H:∀ w1,Ext w w1→∀ v w2,Q w1 v w2→Chg S w1 w2∧GA P S n m L ops (i::l) (Ag e (Ad ops i).dst v) w2) (hf:Bf P n ops i e=some (f,args):=by kernel_rfl):GE P S n m L ops l i e w:=GE.call hf hc H
end
class MemL (b:Nat) (M:List Nat):Prop where m:b∈M
instance {b:Nat}{M:List Nat}:MemL b (b::M):=⟨.head _⟩
instance {a b:Nat}{M:List Nat}[h:MemL b M]:MemL b (a::M):=⟨.tail _ h.m⟩
class Rpl (M:List Nat) (r r2:Nat) (M':outParam (List Nat)):Prop where
 p:∀ k,k∉M→k≠r2→k∉M'
 q:r∈M
instance {r r2:Nat}{M:List Nat}:Rpl (r::M) r r2 (r2::M):=⟨fun k h h2 hk=>by
 rcases List.mem_cons.1 hk with rfl | hk
 ·exact h2 rfl
 ·exact h (.tail _ hk),.head _⟩
instance {a r r2:Nat}{M M':List Nat}[i:Rpl M r r2 M']:Rpl (a::M) r r2 (a::M'):=⟨fun k h h2 hk=>by
 rcases List.mem_cons.1 hk with rfl | hk
 ·exact h AI
 ·exact i.p k (fun hm=>h (.tail _ hm)) h2 hk,.tail _ i.q⟩
class Drp (M:List Nat) (r:Nat) (M':outParam (List Nat)):Prop where
 p:∀ k∈M',k∈M
 q:∀ k∈M,k∈M'∨k=r
instance {r:Nat}{M:List Nat}:Drp (r::M) r M:=⟨fun _ h=>.tail _ h,fun k h=>by
 rcases List.mem_cons.1 h with rfl | h
 ·exact .inr rfl
 ·exact .inl h⟩
instance {a r:Nat}{M M':List Nat}[i:Drp M r M']:Drp (a::M) r (a::M'):=⟨fun k h=>by
 rcases List.mem_cons.1 h with rfl | h
 ·exact .head _
 ·exact .tail _ (i.p k h),fun k h=>by
 rcases List.mem_cons.1 h with rfl | h
 ·exact .inl AI
 ·exact (i.q k h).imp (.tail _) id⟩
class NbA (b:Nat) (K:List Nat):Prop where a:∀ k∈K,b≠k
instance {b:Nat}:NbA b []:=⟨fun _ h=>by cases h⟩
instance {b k:Nat}{K:List Nat}[h:Nb b k] [i:NbA b K]:NbA b (k::K):=⟨fun x hx=>by
 rcases List.mem_cons.1 hx with rfl | hx
 ·exact h.ne
 ·exact i.a x hx⟩
instance {b k:Nat}{K:List Nat}[h:Nb k b] [i:NbA b K]:NbA b (k::K):=⟨fun x hx=>by
 rcases List.mem_cons.1 hx with rfl | hx
 ·exact h.ne.symm
 ·exact i.a x hx⟩
class CovA (L:Nat→Prop) (w:World) (K:List Nat):Prop where a:∀ k∈K,Cov L w k
instance {L:Nat→Prop}{w:World}:CovA L w []:=⟨fun _ h=>by cases h⟩
instance {L:Nat→Prop}{w:World}{k:Nat}{K:List Nat}[h:Cov L w k] [i:CovA L w K]:CovA L w (k::K):=⟨fun x hx=>by
 rcases List.mem_cons.1 hx with rfl | hx
 ·exact h
 ·exact i.a x hx⟩
structure Sp (M M':List Nat) (S:Nat→Prop) (w w':World):Prop where
 mv:Mv M M' w w'
 ch:Chg S w w'
class MT (M M':List Nat) (S:Nat→Prop) (w w':World) (A:Prop) (B:outParam Prop):Prop where go:Mv M M' w w'→Chg S w w'→A→B
section
variable {α:Type} [Rep α] {w w' base:World} {G S L:Nat→Prop} {M M' K:List Nat} {a:Option Addr} {n c r b k:Nat} {t:TypeId} {xs:List α} {cs:List Value}
instance:MT M M' S w w' (RepS w (nin G M) a n c xs) (RepS w' (nin G M') a n c xs):=⟨fun hm _ h=>h.mv hm⟩
instance:MT M M' nil w w' (Box w b t cs) (Box w' b t cs):=⟨fun _ hx h=>h.mv hx (fun h=>h)⟩
instance [h:Nb b k]:MT M M' (one k) w w' (Box w b t cs) (Box w' b t cs):=⟨fun _ hx g=>g.mv hx h.ne⟩
instance [h:Nb k b]:MT M M' (one k) w w' (Box w b t cs) (Box w' b t cs):=⟨fun _ hx g=>g.mv hx h.ne.symm⟩
instance [h:NbA b K]:MT M M' (ins K) w w' (Box w b t cs) (Box w' b t cs):=⟨fun _ hx g=>g.mv hx (fun hb=>h.a b hb rfl)⟩
instance:MT M M' nil w w' (Own w r t (nin G M) n c xs) (Own w' r t (nin G M') n c xs):=⟨fun hm hx h=>h.mv hm hx (fun h=>h)⟩
instance [h:Nb r k]:MT M M' (one k) w w' (Own w r t (nin G M) n c xs) (Own w' r t (nin G M') n c xs):=⟨fun hm hx g=>g.mv hm hx h.ne⟩
instance [h:Nb k r]:MT M M' (one k) w w' (Own w r t (nin G M) n c xs) (Own w' r t (nin G M') n c xs):=⟨fun hm hx g=>g.mv hm hx h.ne.symm⟩
instance [h:NbA r K]:MT M M' (ins K) w w' (Own w r t (nin G M) n c xs) (Own w' r t (nin G M') n c xs):=⟨fun hm hx g=>g.mv hm hx (fun hb=>h.a r hb rfl)⟩
instance:MT M M' nil w w' (Chg L base w) (Chg L base w'):=⟨fun _ hx h=>h.NR hx⟩
instance [hc:Cov L base k]:MT M M' (one k) w w' (Chg L base w) (Chg L base w'):=⟨fun _ hx h=>h.Dy hx hc⟩
instance [hc:CovA L base K]:MT M M' (ins K) w w' (Chg L base w) (Chg L base w'):=⟨fun _ hx h=>h.O6 hx hc.a⟩
theorem sp (hm:Mv M M' w w') (hx:Chg S w w'):Sp M M' S w w':=⟨hm,hx⟩
theorem sn (M:List Nat) (hx:Ext w w') (hb:b=w.heap.size):Sp M (b::M) nil w w':=⟨Mv.cons (Mv.ext hx) (Nat.le_of_eq hb.symm),hx⟩
theorem sz (M:List Nat) (hx:Ext w w') (hb:w.heap.size≤b):Sp M (b::M) nil w w':=⟨Mv.cons (Mv.ext hx) hb,hx⟩
theorem se (M:List Nat) (hx:Ext w w'):Sp M M nil w w':=⟨Mv.ext hx,hx⟩
theorem so (M:List Nat) (hx:Chg (one b) w w') [h:MemL b M]:Sp M M (one b) w w':=⟨Mv.on hx h.m,hx⟩
theorem s1 (hx:Chg (one b) w w'):Sp [b] [b] (one b) w w':=⟨Mv.on hx AI,hx⟩
theorem sa (M:List Nat){r2:Nat}(hx:Chg (one r) w w') (ho:r2=r∨r2=w.heap.size) [h:Rpl M r r2 M']:Sp M M' (one r) w w' :=
 ⟨Mv.mk hx (fun k hk hm=>⟨h.p k hm (fun e=>by
  subst e
  rcases ho with rfl | e
  ·exact hm h.q
  ·omega),fun e=>hm (by cases e; exact h.q)⟩),hx⟩
theorem sd (w:World) (M:List Nat) (r:Nat) [h:Drp M r M']:Sp M M' nil w w:=⟨Mv.less h.p,Chg.refl _ _⟩
theorem Own.rn {r2:Nat}(h:Own w r2 t (nin G M) n c xs) (r:Nat) [i:Rpl M r r2 M']:Own w r2 t (nin G M') n c xs :=
 h.RI (fun k _ hm hr=>i.p k hm hr)
theorem Own.sl (h:Own w r t (nin G M) n c xs) (hg:G r) [i:Drp M r M'] [j:NbA r M']:RepS w (nin G M') (some ⟨r,0,none⟩) n c xs :=
 h.QQ (fun _ _ hF=>⟨hF.1,fun hm=>hF.2 (i.p _ hm)⟩) ⟨hg,fun hm=>j.a r hm rfl⟩
theorem RepS.fr {s s0:Nat}(h:RepS w (ge s) a n c xs) (hM:∀ b∈M,b< s) (hs:Gb s0 s):RepS w (nin (ge s0) M) a n c xs :=
 h.fresh hM (fun _ h=>Nat.le_trans hs h)
theorem RepS.w1 (h:RepS w (nin G M) a n c xs):RepS w G a n c xs:=h.Bj (fun _ _ h=>h.1)
theorem RepS.oi [i:MemL r M] (h:RepS w (nin G M) a n c xs):RepS w (fun b=>nin G M b∧b≠r) a n c xs:=h.Bj (fun _ _ h=>Xs i.m h)
theorem RepS.ta (h:RepS w G a n c xs):RepS w all a n c xs:=h.Bj (fun _ _ _=>trivial)
theorem RepS.tp (h:RepS w G a n c xs):n=xs.length∧n≤9223372036854775807∧RepS w (nin (fo G w.heap.size) []) a n c xs:=⟨h.len,h.max,h.top⟩
theorem Chg.cn (h:Chg L base w) (hb:b=w.heap.size):Cov L base b:=LH hb h.size
end
section
variable {M M1:List Nat} {S:Nat→Prop} {w w1:World}
theorem Sp.g1 {A0 B0:Prop}(s:Sp M M1 S w w1) (a0:A0) [i0:MT M M1 S w w1 A0 B0]:B0:=i0.go s.mv s.ch a0
theorem Sp.g2 {A0 A1 B0 B1:Prop}(s:Sp M M1 S w w1) (a0:A0) (a1:A1) [i0:MT M M1 S w w1 A0 B0] [i1:MT M M1 S w w1 A1 B1]:B0∧B1:=⟨i0.go s.mv s.ch a0,i1.go s.mv s.ch a1⟩
theorem Sp.g3 {A0 A1 A2 B0 B1 B2:Prop}(s:Sp M M1 S w w1) (a0:A0) (a1:A1) (a2:A2) [i0:MT M M1 S w w1 A0 B0] [i1:MT M M1 S w w1 A1 B1] [i2:MT M M1 S w w1 A2 B2]:B0∧B1∧B2:=⟨i0.go s.mv s.ch a0,i1.go s.mv s.ch a1,i2.go s.mv s.ch a2⟩
theorem Sp.g4 {A0 A1 A2 A3 B0 B1 B2 B3:Prop}(s:Sp M M1 S w w1) (a0:A0) (a1:A1) (a2:A2) (a3:A3) [i0:MT M M1 S w w1 A0 B0] [i1:MT M M1 S w w1 A1 B1] [i2:MT M M1 S w w1 A2 B2] [i3:MT M M1 S w w1 A3 B3]:B0∧B1∧B2∧B3:=⟨i0.go s.mv s.ch a0,i1.go s.mv s.ch a1,i2.go s.mv s.ch a2,i3.go s.mv s.ch a3⟩
theorem Sp.g5 {A0 A1 A2 A3 A4 B0 B1 B2 B3 B4:Prop}(s:Sp M M1 S w w1) (a0:A0) (a1:A1) (a2:A2) (a3:A3) (a4:A4) [i0:MT M M1 S w w1 A0 B0] [i1:MT M M1 S w w1 A1 B1] [i2:MT M M1 S w w1 A2 B2] [i3:MT M M1 S w w1 A3 B3] [i4:MT M M1 S w w1 A4 B4]:B0∧B1∧B2∧B3∧B4:=⟨i0.go s.mv s.ch a0,i1.go s.mv s.ch a1,i2.go s.mv s.ch a2,i3.go s.mv s.ch a3,i4.go s.mv s.ch a4⟩
theorem Sp.g6 {A0 A1 A2 A3 A4 A5 B0 B1 B2 B3 B4 B5:Prop}(s:Sp M M1 S w w1) (a0:A0) (a1:A1) (a2:A2) (a3:A3) (a4:A4) (a5:A5) [i0:MT M M1 S w w1 A0 B0] [i1:MT M M1 S w w1 A1 B1] [i2:MT M M1 S w w1 A2 B2] [i3:MT M M1 S w w1 A3 B3] [i4:MT M M1 S w w1 A4 B4] [i5:MT M M1 S w w1 A5 B5]:B0∧B1∧B2∧B3∧B4∧B5:=⟨i0.go s.mv s.ch a0,i1.go s.mv s.ch a1,i2.go s.mv s.ch a2,i3.go s.mv s.ch a3,i4.go s.mv s.ch a4,i5.go s.mv s.ch a5⟩
theorem Sp.g7 {A0 A1 A2 A3 A4 A5 A6 B0 B1 B2 B3 B4 B5 B6:Prop}(s:Sp M M1 S w w1) (a0:A0) (a1:A1) (a2:A2) (a3:A3) (a4:A4) (a5:A5) (a6:A6) [i0:MT M M1 S w w1 A0 B0] [i1:MT M M1 S w w1 A1 B1] [i2:MT M M1 S w w1 A2 B2] [i3:MT M M1 S w w1 A3 B3] [i4:MT M M1 S w w1 A4 B4] [i5:MT M M1 S w w1 A5 B5] [i6:MT M M1 S w w1 A6 B6]:B0∧B1∧B2∧B3∧B4∧B5∧B6:=⟨i0.go s.mv s.ch a0,i1.go s.mv s.ch a1,i2.go s.mv s.ch a2,i3.go s.mv s.ch a3,i4.go s.mv s.ch a4,i5.go s.mv s.ch a5,i6.go s.mv s.ch a6⟩
theorem Sp.g8 {A0 A1 A2 A3 A4 A5 A6 A7 B0 B1 B2 B3 B4 B5 B6 B7:Prop}(s:Sp M M1 S w w1) (a0:A0) (a1:A1) (a2:A2) (a3:A3) (a4:A4) (a5:A5) (a6:A6) (a7:A7) [i0:MT M M1 S w w1 A0 B0] [i1:MT M M1 S w w1 A1 B1] [i2:MT M M1 S w w1 A2 B2] [i3:MT M M1 S w w1 A3 B3] [i4:MT M M1 S w w1 A4 B4] [i5:MT M M1 S w w1 A5 B5] [i6:MT M M1 S w w1 A6 B6] [i7:MT M M1 S w w1 A7 B7]:B0∧B1∧B2∧B3∧B4∧B5∧B6∧B7:=⟨i0.go s.mv s.ch a0,i1.go s.mv s.ch a1,i2.go s.mv s.ch a2,i3.go s.mv s.ch a3,i4.go s.mv s.ch a4,i5.go s.mv s.ch a5,i6.go s.mv s.ch a6,i7.go s.mv s.ch a7⟩
theorem Sp.g9 {A0 A1 A2 A3 A4 A5 A6 A7 A8 B0 B1 B2 B3 B4 B5 B6 B7 B8:Prop}(s:Sp M M1 S w w1) (a0:A0) (a1:A1) (a2:A2) (a3:A3) (a4:A4) (a5:A5) (a6:A6) (a7:A7) (a8:A8) [i0:MT M M1 S w w1 A0 B0] [i1:MT M M1 S w w1 A1 B1] [i2:MT M M1 S w w1 A2 B2] [i3:MT M M1 S w w1 A3 B3] [i4:MT M M1 S w w1 A4 B4] [i5:MT M M1 S w w1 A5 B5] [i6:MT M M1 S w w1 A6 B6] [i7:MT M M1 S w w1 A7 B7] [i8:MT M M1 S w w1 A8 B8]:B0∧B1∧B2∧B3∧B4∧B5∧B6∧B7∧B8:=⟨i0.go s.mv s.ch a0,i1.go s.mv s.ch a1,i2.go s.mv s.ch a2,i3.go s.mv s.ch a3,i4.go s.mv s.ch a4,i5.go s.mv s.ch a5,i6.go s.mv s.ch a6,i7.go s.mv s.ch a7,i8.go s.mv s.ch a8⟩
theorem Sp.g10 {A0 A1 A2 A3 A4 A5 A6 A7 A8 A9 B0 B1 B2 B3 B4 B5 B6 B7 B8 B9:Prop}(s:Sp M M1 S w w1) (a0:A0) (a1:A1) (a2:A2) (a3:A3) (a4:A4) (a5:A5) (a6:A6) (a7:A7) (a8:A8) (a9:A9) [i0:MT M M1 S w w1 A0 B0] [i1:MT M M1 S w w1 A1 B1] [i2:MT M M1 S w w1 A2 B2] [i3:MT M M1 S w w1 A3 B3] [i4:MT M M1 S w w1 A4 B4] [i5:MT M M1 S w w1 A5 B5] [i6:MT M M1 S w w1 A6 B6] [i7:MT M M1 S w w1 A7 B7] [i8:MT M M1 S w w1 A8 B8] [i9:MT M M1 S w w1 A9 B9]:B0∧B1∧B2∧B3∧B4∧B5∧B6∧B7∧B8∧B9:=⟨i0.go s.mv s.ch a0,i1.go s.mv s.ch a1,i2.go s.mv s.ch a2,i3.go s.mv s.ch a3,i4.go s.mv s.ch a4,i5.go s.mv s.ch a5,i6.go s.mv s.ch a6,i7.go s.mv s.ch a7,i8.go s.mv s.ch a8,i9.go s.mv s.ch a9⟩
theorem Sp.g11 {A0 A1 A2 A3 A4 A5 A6 A7 A8 A9 A10 B0 B1 B2 B3 B4 B5 B6 B7 B8 B9 B10:Prop}(s:Sp M M1 S w w1) (a0:A0) (a1:A1) (a2:A2) (a3:A3) (a4:A4) (a5:A5) (a6:A6) (a7:A7) (a8:A8) (a9:A9) (a10:A10) [i0:MT M M1 S w w1 A0 B0] [i1:MT M M1 S w w1 A1 B1] [i2:MT M M1 S w w1 A2 B2] [i3:MT M M1 S w w1 A3 B3] [i4:MT M M1 S w w1 A4 B4] [i5:MT M M1 S w w1 A5 B5] [i6:MT M M1 S w w1 A6 B6] [i7:MT M M1 S w w1 A7 B7] [i8:MT M M1 S w w1 A8 B8] [i9:MT M M1 S w w1 A9 B9] [i10:MT M M1 S w w1 A10 B10]:B0∧B1∧B2∧B3∧B4∧B5∧B6∧B7∧B8∧B9∧B10:=⟨i0.go s.mv s.ch a0,i1.go s.mv s.ch a1,i2.go s.mv s.ch a2,i3.go s.mv s.ch a3,i4.go s.mv s.ch a4,i5.go s.mv s.ch a5,i6.go s.mv s.ch a6,i7.go s.mv s.ch a7,i8.go s.mv s.ch a8,i9.go s.mv s.ch a9,i10.go s.mv s.ch a10⟩
theorem Sp.g12 {A0 A1 A2 A3 A4 A5 A6 A7 A8 A9 A10 A11 B0 B1 B2 B3 B4 B5 B6 B7 B8 B9 B10 B11:Prop}(s:Sp M M1 S w w1) (a0:A0) (a1:A1) (a2:A2) (a3:A3) (a4:A4) (a5:A5) (a6:A6) (a7:A7) (a8:A8) (a9:A9) (a10:A10) (a11:A11) [i0:MT M M1 S w w1 A0 B0] [i1:MT M M1 S w w1 A1 B1] [i2:MT M M1 S w w1 A2 B2] [i3:MT M M1 S w w1 A3 B3] [i4:MT M M1 S w w1 A4 B4] [i5:MT M M1 S w w1 A5 B5] [i6:MT M M1 S w w1 A6 B6] [i7:MT M M1 S w w1 A7 B7] [i8:MT M M1 S w w1 A8 B8] [i9:MT M M1 S w w1 A9 B9] [i10:MT M M1 S w w1 A10 B10] [i11:MT M M1 S w w1 A11 B11]:B0∧B1∧B2∧B3∧B4∧B5∧B6∧B7∧B8∧B9∧B10∧B11:=⟨i0.go s.mv s.ch a0,i1.go s.mv s.ch a1,i2.go s.mv s.ch a2,i3.go s.mv s.ch a3,i4.go s.mv s.ch a4,i5.go s.mv s.ch a5,i6.go s.mv s.ch a6,i7.go s.mv s.ch a7,i8.go s.mv s.ch a8,i9.go s.mv s.ch a9,i10.go s.mv s.ch a10,i11.go s.mv s.ch a11⟩
end
theorem al1 {a0 s:Nat}(h0:a0< s):∀ b∈[a0],b< s:=all_cons h0 (all_nil)
theorem al2 {a0 a1 s:Nat}(h0:a0< s) (h1:a1< s):∀ b∈[a0,a1],b< s:=all_cons h0 (all_cons h1 (all_nil))
theorem al3 {a0 a1 a2 s:Nat}(h0:a0< s) (h1:a1< s) (h2:a2< s):∀ b∈[a0,a1,a2],b< s:=all_cons h0 (all_cons h1 (all_cons h2 (all_nil)))
theorem al4 {a0 a1 a2 a3 s:Nat}(h0:a0< s) (h1:a1< s) (h2:a2< s) (h3:a3< s):∀ b∈[a0,a1,a2,a3],b< s:=all_cons h0 (all_cons h1 (all_cons h2 (all_cons h3 (all_nil))))
theorem al5 {a0 a1 a2 a3 a4 s:Nat}(h0:a0< s) (h1:a1< s) (h2:a2< s) (h3:a3< s) (h4:a4< s):∀ b∈[a0,a1,a2,a3,a4],b< s:=all_cons h0 (all_cons h1 (all_cons h2 (all_cons h3 (all_cons h4 (all_nil)))))
end Go.Proofs.YtcginoabkicdiaaGreat
namespace Go.Proofs.YtcginoabkicdiaaGreat
def ON:List Nat→Bool
 | []=>true
 | x::xs=>!(xs.any fun y=>Nat.beq x y)&&ON xs
theorem SH:∀ {l:List Nat},ON l=true→l.Nodup:=by
 intro l
 induction l with
 | nil=>intro _; simp
 | cons x xs ih =>
   intro h
   simp only [ON,AW,Bool.not_eq_true',List.any_eq_false] at h
   refine List.nodup_cons.2 ⟨fun hm=>?_,ih h.2⟩
   have:=h.1 x hm
   simp at this
section
variable {P:Program} {S:Nat→Prop} {n m:Nat} {L:Env→World→Prop} {ops:Array Oper} {l:List Nat} {e:Env} {w:World}
theorem NV {L L':Array Bool→Act→World→Prop}(h:∀ listed a w,L listed a w→L' listed a w):∀ (f:Nat) (listed:Array Bool) (a:Act) (w:World),Kk P S ops m L f listed a w→Kk P S ops m L' f listed a w
 | 0,listed,a,w,hh=>fun w1 hx=>h _ _ _ (hh w1 hx)
 | f+1,listed,a,w,hh=>⟨hh.1,fun w1 hx i hi=>⟨(hh.2 w1 hx i hi).1,Ow (fun a' w' _ h'=>NV h f _ a' w' h') (hh.2 w1 hx i hi).2⟩⟩
theorem GA.mono {L':Env→World→Prop}(h:∀ e w,L e w→L' e w) (hh:GA P S n m L ops l e w):GA P S n m L' ops l e w:=fun hB f a hf ha inv =>
 NV (fun _ _ _ ⟨h1,e',h2,h3⟩=>⟨h1,e',h2,h _ _ h3⟩) f _ a w (hh hB f a hf ha inv)
def RQ (ops:Array Oper) (m:Nat) (l:List Nat) (e:Env):Env:=(List.range m).foldr (fun i e=>bif l.any (fun j=>Nat.beq i j) then e else Ag e (Ad ops i).dst undef) e
def Xv (ops:Array Oper) (m:Nat) (l:List Nat) (e:Env) (i:Nat):Bool :=
 match (Ad ops i).guard with
 | none=>false
 | some (j,_)=>bif l.any (fun k=>Nat.beq j k) then !(D9 ops (Ad ops i) e) else Nat.blt j m&&(Ad ops i).after.toList.any (fun g=>Nat.beq g.on j&&Region.binds .any g)
def TG (n m:Nat) (ops:Array Oper) (l:List Nat) (e:Env):Bool :=
 Nat.ble m ops.toList.length&&l.all (fun i=>Nat.blt i m)&&ON l&&(List.range m).all (fun i=>Ot n ops i&&((Ad ops i).after.toList.all fun g=>Nat.blt g.on i)&&(l.any (fun j=>Nat.beq i j) || Xv ops m l e i))
theorem TH {o:Oper}{e':Env}(h:D9 ops o e=false) (he:∀ t,e' t=e t∨e' t=undef):D9 ops o e'=false:=by
 unfold D9 at h ⊢
 cases hg:o.guard with
 | none=>rw [hg] at h; simp at h
 | some g =>
   obtain ⟨j,want⟩:=g
   rw [hg] at h
   simp only at h ⊢
   cases hd:(ops[j]?).bind (·.dst) with
   | none=>rfl
   | some t =>
     rw [hd] at h
     simp only at h ⊢
     rcases he t with h1 | h1
     ·rw [h1]; exact h
     ·rw [h1]; rfl
theorem LJ {i:Nat}:(l.any fun j=>Nat.beq i j)=true↔i∈l:=by
 rw [List.any_eq_true]
 constructor
 ·rintro ⟨j,hj,h⟩; rw [Nat.eq_of_beq_eq_true h]; exact hj
 ·intro h; exact ⟨i,h,by simp⟩
theorem Vg {l:List Nat}(h1:∀ i∈l,i< m) (h2:l.Nodup) (h3:m≤l.length):∀ i,i< m→i∈l:=by
 intro i hi
 by_cases hm:i∈l
 ·exact hm
 ·exfalso
  have key:∀ (m:Nat) (l:List Nat),(∀ i∈l,i< m)→l.Nodup→l.length≤m:=by
   intro m
   induction m with
   | zero=>intro l h _; cases l with | nil=>exact Nat.le_refl _ | cons x xs=>exact absurd (h x AD) AB
   | succ m ih =>
     intro l h hn
     have:=ih (l.erase m) (fun i hi=>by
      have h1:=h i (List.mem_of_mem_erase hi)
      have h2:i≠m:=fun e=>by subst e; exact (List.Nodup.mem_erase_iff hn).1 hi |>.1 rfl
      omega) (hn.erase m)
     have:=List.length_erase (a:=m) (l:=l)
     split at this <;> omega
  have:=key m (i::l) (fun j hj=>by rcases List.mem_cons.1 hj with rfl | hj; exact hi; exact h1 j hj) (List.nodup_cons.2 ⟨hm,h2⟩)
  simp at this
  omega
theorem TI:∀ (m:Nat) (l:List Nat),(∀ i,i< m→i∈l)→m≤l.length:=by
 intro m
 induction m with
 | zero=>intro l _; omega
 | succ m ih =>
   intro l h
   have hm:=h m AB
   have:=ih (l.erase m) (fun i hi=>(List.mem_erase_of_ne AB).2 (h i AB))
   have h2:=List.length_erase_of_mem hm
   have:=List.length_pos_of_mem hm
   omega
theorem QU (l:List Nat) (e:Env):∀ (is:List Nat) (t:Nat),((∃ i∈is,i∉l∧(Ad ops i).dst=some t)→is.foldr (fun i e=>bif l.any (fun j=>Nat.beq i j) then e else Ag e (Ad ops i).dst undef) e t=undef) ∧
 (¬ (∃ i∈is,i∉l∧(Ad ops i).dst=some t)→is.foldr (fun i e=>bif l.any (fun j=>Nat.beq i j) then e else Ag e (Ad ops i).dst undef) e t=e t):=by
 intro is
 induction is with
 | nil=>intro t; exact ⟨fun ⟨i,hi,_⟩=>(by cases hi),fun _=>rfl⟩
 | cons i is ih =>
   intro t
   obtain ⟨h1,h2⟩:=ih t
   simp only [List.foldr_cons]
   cases hc:l.any (fun j=>Nat.beq i j) with
   | true =>
     have hm:=LJ.1 hc
     simp only [cond_true]
     refine ⟨fun ⟨j,hj,hn,hd⟩=>h1 ?_,fun hno=>h2 (fun ⟨j,hj,hn,hd⟩=>hno ⟨j,by simp [hj],hn,hd⟩)⟩
     rcases List.mem_cons.1 hj with rfl | hj
     ·exact absurd hm hn
     ·exact ⟨j,hj,hn,hd⟩
   | false =>
     have hm:i∉l:=fun h=>by rw [LJ.2 h] at hc; cases hc
     simp only [cond_false]
     cases hd:(Ad ops i).dst with
     | none =>
       simp only [Ag]
       refine ⟨fun ⟨j,hj,hn,hdj⟩=>h1 ?_,fun hno=>h2 (fun ⟨j,hj,hn,hdj⟩=>hno ⟨j,by simp [hj],hn,hdj⟩)⟩
       rcases List.mem_cons.1 hj with rfl | hj
       ·rw [hd] at hdj; cases hdj
       ·exact ⟨j,hj,hn,hdj⟩
     | some d =>
       simp only [Ag,upd]
       by_cases ht:t=d
       ·subst ht
        simp only [Nat.beq_refl,cond_true]
        exact ⟨fun _=>trivial,fun hno=>absurd ⟨i,by simp,hm,hd⟩ hno⟩
       ·have hb:Nat.beq t d=false:=by
         cases hb:Nat.beq t d with
         | false=>rfl
         | true=>exact absurd (Nat.eq_of_beq_eq_true hb) ht
        simp only [hb,cond_false]
        refine ⟨fun ⟨j,hj,hn,hdj⟩=>h1 ?_,fun hno=>h2 (fun ⟨j,hj,hn,hdj⟩=>hno ⟨j,by simp [hj],hn,hdj⟩)⟩
        rcases List.mem_cons.1 hj with rfl | hj
        ·rw [hd] at hdj; exact absurd (Option.some.inj hdj).symm ht
        ·exact ⟨j,hj,hn,hdj⟩
theorem GA.skip (h:TG n m ops l e=true) (H:∀ w1,Ext w w1→L (RQ ops m l e) w1):GA P S n m L ops l e w:=by
 intro hB f a hf ha inv
 simp only [TG,AW,List.all_eq_true,List.mem_range,Bool.or_eq_true] at h
 obtain ⟨⟨⟨hms,hl⟩,hnd⟩,hall⟩:=h
 have hms:=Nat.le_of_ble_eq_true hms
 have hsz:ops.toList.length=ops.size:=rfl
 have hl2:∀ i∈l,i< m:=fun i hi=>Nat.le_of_ble_eq_true (hl i hi)
 have key:∀ (f:Nat) (l':List Nat) (a:Act) (w:World) (e':Env),(∀ i∈l',i< m)→l'.Nodup→(∀ i∈l,i∈l')→f+l'.length=m→HeadInv .any ops m (lst ops.size l')→Sees n a e' →
  (∀ t,((∃ i∈l',i∉l∧(Ad ops i).dst=some t)→e' t=undef)∧(¬ (∃ i∈l',i∉l∧(Ad ops i).dst=some t)→e' t=e t))→(∀ w1,Ext w w1→L (RQ ops m l e) w1) →
  Kk P S ops m (fun listed a' w'=>listed=fin ops m∧∃ e',Sees n a' e'∧L e' w') f (lst ops.size l') a w:=by
  intro f
  induction f with
  | zero =>
    intro l' a w e' h1 h2 h3 h4 hiv h5 h6 h7 w1 hx
    have hfull:=Vg h1 h2 AB
    refine ⟨?_,e',h5,?_⟩
    ·unfold fin
     refine Array.ext_getElem? (fun i=>?_)
     by_cases hi:i< ops.size
     ·rw [E1 _ hi,E1 _ hi]
      congr 1
      rw [decide_eq_decide]
      simp only [List.mem_reverse,List.mem_range]
      exact ⟨fun hm=>h1 i hm,fun hm=>hfull i hm⟩
     ·rw [Array.getElem?_eq_none (by rw [F5]; omega),Array.getElem?_eq_none (by rw [F5]; omega)]
    ·have:e'=RQ ops m l e:=by
      funext t
      obtain ⟨g1,g2⟩:=QU (ops:=ops) l e (List.range m) t
      obtain ⟨k1,k2⟩:=h6 t
      by_cases hc:∃ i∈l',i∉l∧(Ad ops i).dst=some t
      ·rw [k1 hc]
       obtain ⟨i,hi,hn,hd⟩:=hc
       exact (g1 ⟨i,List.mem_range.2 (h1 i hi),hn,hd⟩).symm
      ·rw [k2 hc]
       exact (g2 (fun ⟨i,hi,hn,hd⟩=>hc ⟨i,hfull i (List.mem_range.1 hi),hn,hd⟩)).symm
     rw [this]
     exact h7 w1 hx
  | succ f ih =>
    intro l' a w e' h1 h2 h3 h4 hiv h5 h6 h7
    have hex:∃ i,i< m∧i∉l'∧∀ j,j< i→j∈l':=by
     have:∃ i,i< m∧i∉l':=Classical.byContradiction (fun hno=>by
      have hall:∀ i,i< m→i∈l':=fun i hi=>Classical.byContradiction (fun hn=>hno ⟨i,hi,hn⟩)
      have:=TI m l' hall
      omega)
     obtain ⟨i,hi,hn⟩:=this
     induction i using Nat.strongRecOn with
     | ind i ihi =>
       by_cases hall:∀ j,j< i→j∈l'
       ·exact ⟨i,hi,hn,hall⟩
       ·obtain ⟨j,hj⟩:=Classical.not_forall.1 hall
        obtain ⟨hj1,hj2⟩:=Classical.not_imp.1 hj
        exact ihi j hj1 AB hj2
    obtain ⟨i0,hi0,hn0,hlow⟩:=hex
    have hat:∀ i,i< m→ops[i]? = some (Ad ops i):=fun i hi=>by
     have:i< ops.size:=by omega
     simp [Ad,this]
    refine ⟨fun hr=>?_,fun w1 hx i hi=>?_⟩
    ·have:i0∈Region.ready .any ops (lst ops.size l'):=by
      rw [mem_ready]
      refine ⟨?_,Ad ops i0,hat i0 hi0,fun g hg _=>?_⟩
      ·rw [Array.getD_eq_getD_getElem?,E1 _ AB]
       simp [hn0]
      ·have hlt:=(hall i0 hi0).1.2 g (by simpa using hg)
       have hlt:=Nat.le_of_ble_eq_true hlt
       rw [Array.getD_eq_getD_getElem?,E1 _ AB]
       simp [hlow g.on AB]
     rw [hr] at this
     cases this
    ·obtain ⟨hun,o,ho,_⟩:=mem_ready.1 hi
     have his:i< ops.size:=(Array.getElem?_eq_some_iff.1 ho).1
     rw [Array.getD_eq_getD_getElem?,E1 _ his] at hun
     have hni:i∉l':=by simpa using hun
     have him:i< m:=by
      rcases Nat.lt_or_ge i m with h | h
      ·exact h
      ·exfalso
       obtain ⟨_,_,htl,_⟩:=FH hB
       exact Ia htl (lst ops.size l') hiv (i:=i0) hi0 (by rw [Array.getD_eq_getD_getElem?,E1 _ AB]; simp [hn0]) i h hi
     refine ⟨him,?_⟩
     have hil:i∉l:=fun hm=>hni (h3 i hm)
     have hu:Xv ops m l e i=true:=(hall i him).2.resolve_left (fun hc=>hil (LJ.1 hc))
     have hw:D9 ops (Ad ops i) e'=false:=by
      unfold Xv at hu
      cases hg:(Ad ops i).guard with
      | none=>rw [hg] at hu; cases hu
      | some g =>
        obtain ⟨j,want⟩:=g
        rw [hg] at hu
        simp only at hu
        cases hj:l.any (fun k=>Nat.beq j k) with
        | true =>
          rw [hj] at hu
          simp only [cond_true,Bool.not_eq_true'] at hu
          refine TH hu (fun t=>?_)
          obtain ⟨k1,k2⟩:=h6 t
          by_cases hc:∃ i∈l',i∉l∧(Ad ops i).dst=some t
          ·exact .inr (k1 hc)
          ·exact .inl (k2 hc)
        | false =>
          rw [hj] at hu
          simp only [cond_false,AW,List.any_eq_true] at hu
          obtain ⟨hjm,gg,hgg,hgo,hgb⟩:=hu
          have hjm:=Nat.le_of_ble_eq_true hjm
          have hgo:=Nat.eq_of_beq_eq_true hgo
          have hjl:j∉l:=fun h=>by rw [LJ.2 h] at hj; cases hj
          obtain ⟨_,o2,ho2,hall2⟩:=mem_ready.1 hi
          have e1:=hat i him
          rw [e1] at ho2
          cases ho2
          have h8:=hall2 gg (by simpa using hgg) hgb
          rw [hgo,I2 _ AB] at h8
          have hjl':j∈l':=by simpa using h8
          unfold D9
          rw [hg]
          simp only
          rw [hat j hjm]
          cases hd:(Ad ops j).dst with
          | none=>simp [hd]
          | some t =>
            simp only [Option.bind_some,hd]
            rw [(h6 t).1 ⟨j,hjl',hjl,hd⟩]
            rfl
     unfold gOp
     simp only [hat i him]
     rw [h5.want,hw]
     simp only [Bool.false_eq_true,if_false]
     rw [← Cz]
     have hd:=(hall i him).1.1
     have hdk:okD n (Ad ops i).dst=true:=by simp only [Ot,AW] at hd; exact hd.2
     refine ih (i::l') (a.put (Ad ops i).dst undef) w1 (Ag e' (Ad ops i).dst undef) (fun j hj=>?_) (List.nodup_cons.2 ⟨hni,h2⟩) (fun j hj=>by simp [h3 j hj]) (by simp only [List.length_cons]; omega) (by rw [Cz]; exact hiv.set hi him) (h5.Mt hdk undef) (fun t=>?_) (fun w2 hx2=>h7 w2 (hx.trans hx2))
     ·rcases List.mem_cons.1 hj with rfl | hj
      ·exact him
      ·exact h1 j hj
     ·obtain ⟨k1,k2⟩:=h6 t
      cases hdd:(Ad ops i).dst with
      | none =>
        simp only [Ag]
        refine ⟨fun ⟨j,hj,hn,hdj⟩=>k1 ?_,fun hno=>k2 (fun ⟨j,hj,hn,hdj⟩=>hno ⟨j,by simp [hj],hn,hdj⟩)⟩
        rcases List.mem_cons.1 hj with rfl | hj
        ·rw [hdd] at hdj; cases hdj
        ·exact ⟨j,hj,hn,hdj⟩
      | some d =>
        simp only [Ag,upd]
        by_cases ht:t=d
        ·subst ht
         simp only [Nat.beq_refl,cond_true]
         exact ⟨fun _=>trivial,fun hno=>absurd ⟨i,by simp,hil,hdd⟩ hno⟩
        ·have hb:Nat.beq t d=false:=by
          cases hb:Nat.beq t d with
          | false=>rfl
          | true=>exact absurd (Nat.eq_of_beq_eq_true hb) ht
         simp only [hb,cond_false]
         refine ⟨fun ⟨j,hj,hn,hdj⟩=>k1 ?_,fun hno=>k2 (fun ⟨j,hj,hn,hdj⟩=>hno ⟨j,by simp [hj],hn,hdj⟩)⟩
         rcases List.mem_cons.1 hj with rfl | hj
         ·rw [hdd] at hdj; exact absurd (Option.some.inj hdj).symm ht
         ·exact ⟨j,hj,hn,hdj⟩
 exact key f l a w e hl2 (SH hnd) (fun i hi=>hi) hf inv ha (fun t=>⟨fun ⟨i,hi,hn,_⟩=>absurd hi hn,fun _=>rfl⟩) H
end
section
variable {P:Program} {f:FuncId} {fn:Func} {R:Value→World→Prop} {c:Code} {k:List Item} {e:Env} {w:World}
theorem T.RR {X:Type}(S:Nat→Prop) (m:Nat) (V:X→List (Nat × Value)) (I:X→World→Prop) (h:(G3 c true&&P.follows .mixedOrders&&IJ (FG c) m)=true)
 (H1:∀ w1,Ext w w1→GA P S fn.ntmps m (fun e' w'=>∃ x,GQ e' (V x)∧I x w') (FG c) [] e w1)
 (H2:∀ x e' w',I x w'→RG P fn.ntmps (fun e'' w''=>T P f fn R k e'' w'') (FG c) m (Ou e' (V x)) w'):T P f fn R (.code c::k) e w :=
 T.RH S m h (fun w1 hx=>(H1 w1 hx).mono (fun e' w' ⟨x,ha,hi⟩=>by have:=H2 x e' w' hi; rwa [Jh ha] at this))
end
end Go.Proofs.YtcginoabkicdiaaGreat
namespace Go.Proofs.YtcginoabkicdiaaGreat
theorem DG {a a' b b':Value}(h:a=a') (h':b=b'):Value.tuple #[a,b]=Value.tuple #[a',b']:=by rw [h,h']
theorem OO {a a' b b' c c':Value}(h:a=a') (h':b=b') (h2:c=c'):Value.tuple #[a,b,c]=Value.tuple #[a',b',c']:=by rw [h,h',h2]
def inR (n lo hi:Int):Bool:=decide (lo≤n)&&decide (n≤hi)
theorem Bt {n lo hi:Int}(h:inR n lo hi=true):lo≤n∧n≤hi:=by simpa [inR] using h
def BS (r:Row):Bool:=inR r.t 0 99&&inR r.v (-99) 99
def By:Option Row→List Row→Bool
 | _,[]=>true
 | o,r::rs=>BS r&&(match o with | some q=>decide (q.t< r.t) | none=>true)&&By (some r) rs
def Ax (b:List Row):Bool:=By none b&&decide (b.length≤24)
def Cf (out:List Row) (r:Row) (done:Bool):List Row→List Row
 | []=>if done then out else out++[r]
 | x :: xs =>
   if !done&&decide (x.t≥r.t) then
    (if x.t != r.t then Cf (out++[r]++[x]) r true xs else Cf (out++[r]) r true xs)
   else (if x.t != r.t then Cf (out++[x]) r done xs else Cf out r done xs)
def EU (b:List Row) (r:Row):List Row:=Cf [] r false b
def Bg (a b:List Row):List Row:=b.foldl EU a
def has (n:List Tag) (t:Tag):Bool:=n.any (fun x=>x==t)
def FZ (t:Tag):Nat→List (List Tag)→List Int
 | _,[]=>[]
 | i,n::ns=>(if has n t then [(i:Int)+1] else [])++FZ t (i+1) ns
def ids (names:List (List Tag)) (t:Tag):List Int:=FZ t 0 names
def BN:Nat→List (List Row)→List Int × List (List Row)
 | _,[]=>([],[])
 | i,b::bs=>if b.length > 0 then (((i:Int)+1)::(BN (i+1) bs).1,b::(BN (i+1) bs).2) else BN (i+1) bs
def EC (blocks:List (List Row)):Prt:=⟨(BN 0 blocks).1,(BN 0 blocks).2⟩
def My (lo hi:Int) (s:Str):Bool:=match s with | [x]=>inR x.toNat lo hi | _=>false
def CX (t:Tag):Bool:=My 97 100 t.key&&My 112 122 t.val
def DW:Option Tag→List Tag→Bool
 | _,[]=>true
 | o,t::ts=>CX t&&(match o with | some q=>Bh q.key t.key | none=>true)&&DW (some t) ts
def As (n:List Tag):Bool:=DW none n&&inR n.length 1 3
theorem Xw {s:Str}(h:(s.length:Int)=1):∃ x,s=[x]:=by
 match s,h with
 | [x],_=>exact ⟨x,rfl⟩
 | [],h=>simp at h
 | x::y::r,h=>simp only [List.length_cons] at h; omega
theorem RS {lo hi:Int}{s:Str}(h:(s.length:Int)≠1):My lo hi s=false:=by
 match s,h with
 | [x],h=>simp at h
 | [],_=>rfl
 | x::y::r,_=>rfl
theorem Ej {t:Tag}(h:(t.key.length:Int)≠1):CX t=false:=by simp [CX,RS h]
theorem Dh {t:Tag}(h:(t.val.length:Int)≠1):CX t=false:=by simp [CX,RS h]
theorem TJ {t:Tag}{x y:UInt8}(hk:t.key=[x]) (hv:t.val=[y]):CX t=(inR x.toNat 97 100&&inR y.toNat 112 122):=by simp [CX,My,hk,hv]
theorem Lk (x y:UInt8):Bh [x] [y]=decide (x.toNat< y.toNat):=by
 unfold Bh Op.bytesLess Op.bytesLess
 by_cases h:x< y
 ·simp [h,UInt8.lt_iff_toNat_lt.1 h]
 ·have h2:¬ x.toNat< y.toNat:=fun h2=>h (UInt8.lt_iff_toNat_lt.2 h2)
  simp [h,h2]
theorem TK (x y:UInt8):Gm [x] [y]=decide (x.toNat≤y.toNat):=by
 have h:=Lk x y
 unfold Bh at h
 unfold Gm
 rw [h,Bool.eq_iff_iff]
 simp only [Bool.or_eq_true,decide_eq_true_eq,beq_iff_eq,List.cons.injEq,and_true]
 constructor
 ·rintro (h | rfl) <;> omega
 ·intro h1
  by_cases h2:x.toNat< y.toNat
  ·exact .inl h2
  ·exact .inr (UInt8.toNat_inj.1 AB)
theorem Dz {t:Tag}(hk:(t.key.length:Int)=1) (hv:(t.val.length:Int)=1):CX t=(!(Bh t.key [97])&&Gm t.key [100] && !(Bh t.val [112])&&Gm t.val [122]):=by
 obtain ⟨x,hx⟩:=Xw hk
 obtain ⟨y,hy⟩:=Xw hv
 rw [TJ hx hy,hx,hy,Lk,TK,Lk,TK]
 unfold inR
 rw [Bool.eq_iff_iff]
 simp
 omega
theorem F6 {t:Tag}(hk:(t.key.length:Int)=1) (h:Bh t.key [97]=true):CX t=false:=by
 by_cases hv:(t.val.length:Int)=1
 ·rw [Dz hk hv,h]; simp
 ·exact Dh hv
theorem F7 {t:Tag}(hk:(t.key.length:Int)=1) (h:Gm t.key [100]=false):CX t=false:=by
 by_cases hv:(t.val.length:Int)=1
 ·rw [Dz hk hv,h]; simp
 ·exact Dh hv
theorem at1 {s:Str}{y:UInt8}(h:(s.length:Int)=1) (hy:s[0]? = some y):s=[y]:=by
 obtain ⟨x,rfl⟩:=Xw h
 simpa using hy
theorem LK {lo hi:Int}{s:Str}{y:UInt8}(h:(s.length:Int)=1) (hy:s[0]? = some y):My lo hi s=inR y.toNat lo hi:=by
 rw [at1 h hy]; rfl
theorem Hq (t:Tag):CX t=(My 97 100 t.key&&My 112 122 t.val):=rfl
theorem TL (r:Row):∀ (xs out:List Row) (d:Bool),(Cf out r d xs).length≤out.length+xs.length+1∧(d=true→(Cf out r d xs).length≤out.length+xs.length):=by
 intro xs
 induction xs with
 | nil=>intro out d; cases d <;> simp [Cf]
 | cons x xs ih =>
   intro out d
   have h1:=ih (out++[r]++[x]) true
   have h2:=ih (out++[r]) true
   have h3:=ih (out++[x]) d
   have h4:=ih out d
   simp only [List.length_append,List.length_cons,List.length_nil] at h1 h2 h3 h4
   unfold Cf
   cases d <;> simp only [Bool.not_true,Bool.not_false,Bool.false_and,Bool.true_and,List.length_cons] <;> split <;> (try split) <;> constructor <;> (try intro hd) <;> (try cases hd) <;> first | omega | simp_all <;> omega
theorem DK (b:List Row) (r:Row):(EU b r).length≤b.length+1:=by
 have:=(TL r b [] false).1
 simpa [EU] using this
def Bd (id:Int):List Int→List (List Row)→List Row
 | i::is,b::bs=>if i==id then b else Bd id is bs
 | _,_=>[]
def partOf (p:Prt) (id:Int):List Row:=Bd id p.ids p.blocks
def prev {α:Type}(xs:List α) (k:Nat):Option α:=if k=0 then none else xs[k - 1]?
@[grind =] theorem SI {α:Type}(xs:List α) (k:Nat):prev xs (k+1)=xs[k]? := by simp [prev]
theorem PA {α:Type}(xs:List α) (k:Nat) (h:0< k):prev xs k=xs[k - 1]? := by simp [prev]; omega
def BU:Option Int→List Int→List (List Row)→Bool
 | _,[],_=>true
 | o,i::is,b::bs=>inR i 1 6&&(match o with | some q=>decide (q< i) | none=>true)&&decide (0< b.length)&&Ax b&&BU (some i) is bs
 | _,_::_,[]=>false
def Ai (p:Prt):Bool:=decide (p.ids.length=p.blocks.length)&&BU none p.ids p.blocks
def BT (p:Prt) (n:Int):Bool:=Ai p&&(match p.ids.getLast? with | some i=>decide (i≤n) | none=>false)
def Ec (v:Int):Nat→List Int→Int
 | _,[]=>-1
 | i,x::xs=>if x==v then (i:Int) else Ec v (i+1) xs
def Mz:Int→List Int→Int
 | m,[]=>m
 | m,x::xs=>Mz (if x > m then x else m) xs
def maxOf:List Int→Int
 | []=>0
 | x::xs=>Mz x xs
def NW (t:Tag):Str:=t.key++[61]++t.val
def G9:Nat→List Tag→Str
 | _,[]=>[]
 | i,t::ts=>(if i > 0 then [44] else [])++NW t++G9 (i+1) ts
def text (n:List Tag):Str:=G9 0 n
def CM (a b:Tag):Bool:=Bh a.key b.key || a.key==b.key&&Bh a.val b.val
def CP (id:Int) (o:List Row) (p:Prt):List Row:=Bg o (partOf p id)
def CZ (id:Int) (o:List Row) (m:Smp):List Row:=if m.id==id then EU o m.row else o
def rowsOf (s:Sto) (id:Int):List Row:=s.mem.foldl (CZ id) (s.parts.foldl (CP id) [])
def BX (a b:Prt) (n:Nat):List (List Row):=(List.range n).map (fun (i:Nat)=>Bg (partOf a ((i:Int)+1)) (partOf b ((i:Int)+1)))
def BB (a b:Prt):Prt:=EC (BX a b 6)
theorem I3 (a b:Prt) (n:Nat):BX a b (n+1)=BX a b n++[Bg (partOf a ((n:Int)+1)) (partOf b ((n:Int)+1))]:=by simp [BX,List.range_succ]
theorem D1 (a b:Prt) (n:Nat):(BX a b n).length=n:=by simp [BX]
def HA (n:List Tag):Prop:=n.length≤1000∧∀ t∈n,t.key.length≤1000∧t.val.length≤1000
def CR (p:Prt):Prop:=p.ids.length=p.blocks.length∧p.blocks.length≤1000∧∀ b∈p.blocks,b.length≤1000
theorem Ig (a b:List Row):(Bg a b).length≤a.length+b.length:=by
 unfold Bg
 induction b generalizing a with
 | nil=>simp
 | cons x xs ih =>
   simp only [List.foldl_cons,List.length_cons]
   have h1:=ih (EU a x)
   have h2:=DK a x
   omega
theorem Jl (id:Int):∀ (is:List Int) (bs:List (List Row)),Bd id is bs=[]∨Bd id is bs∈bs:=by
 intro is
 induction is with
 | nil=>intro bs; left; unfold Bd; rfl
 | cons i is ih =>
   intro bs
   cases bs with
   | nil=>left; unfold Bd; rfl
   | cons b bs =>
     unfold Bd
     split
     ·right; simp
     ·rcases ih bs with h | h
      ·left; exact h
      ·right; exact List.mem_cons_of_mem _ h
theorem Cd {p:Prt}(h:CR p) (id:Int):(partOf p id).length≤1000:=by
 rcases Jl id p.ids p.blocks with h1 | h1
 ·unfold partOf; rw [h1]; simp
 ·exact h.2.2 _ h1
theorem PB {a b:Prt}(ha:CR a) (hb:CR b) (n:Nat):∀ x∈BX a b n,x.length≤2000:=by
 intro x hx
 simp only [BX,List.mem_map] at hx
 obtain ⟨i,_,rfl⟩:=hx
 have h1:=Ig (partOf a ((i:Int)+1)) (partOf b ((i:Int)+1))
 have h2:=Cd ha ((i:Int)+1)
 have h3:=Cd hb ((i:Int)+1)
 omega
def DH (num:Int):Nat→List Fil→Int
 | _,[]=>-1
 | i,f::fs=>if f.num==num then (i:Int) else DH num (i+1) fs
def Al (d:Dsk) (num:Int):Int:=DH num 0 d.files
def nmF (t:Str):Nat→List (List Tag)→Int
 | _,[]=>0
 | i,x::xs=>if text x==t then (i:Int)+1 else nmF t (i+1) xs
def Gx (ix:Idx) (n:List Tag):Int:=nmF (text n) 0 ix.names
theorem TM (a b:Pst):a=b↔a.tag=b.tag∧a.ids=b.ids:=by cases a; cases b; simp
end Go.Proofs.YtcginoabkicdiaaGreat
namespace Go.Proofs.YtcginoabkicdiaaGreat
class Dp (α:Type) [Rep α] where
 dp:World→(Nat→Prop)→α→List Value→Prop
 rp:∀ {w D x cs},dp w D x cs→Rep.rep w D x cs
 fr:∀ {w w':World} {D D':Nat→Prop} {x cs},dp w D x cs→(∀ b,b< w.heap.size→D b→D' b∧w'.heap[b]? = w.heap[b]?)→dp w' D' x cs
structure DpS {α:Type}[Rep α] [Dp α] (w:World) (D:Nat→Prop) (a:Option Addr) (n c:Nat) (xs:List α):Prop where
 len:n=xs.length
 le:n≤c
 cap:c≤maxLen
 addr:0< n→a=some ⟨blk a,off a,none⟩
 inD:0< n→D (blk a)
 row:0< n→∃ cur t,w.heap[blk a]? = some (.cells cur t (0,0))
 el:∃ E:Nat→Nat→Prop,(∀ i j b,E i b→E j b→i=j)∧(∀ i b,E i b→D b∧b≠blk a) ∧
  ∀ i x,xs[i]? = some x→∃ cs,Dp.dp w (E i) x cs∧Has w ⟨blk a,off a+i * Rep.sz α,none⟩ cs
section
variable {α:Type} [Rep α] [Dp α] {w w':World} {D D':Nat→Prop} {a:Option Addr} {n c:Nat} {xs:List α}
theorem DpS.lt (h:DpS w D a n c xs) (h0:0< n):blk a< w.heap.size:=by
 obtain ⟨cur,t,h1⟩:=h.row h0
 exact (Array.getElem?_eq_some_iff.1 h1).1
theorem DpS.rep (h:DpS w D a n c xs):RepS w D a n c xs:=by
 obtain ⟨E,h1,h2,h3⟩:=h.el
 refine ⟨h.len,h.le,h.cap,h.addr,h.inD,fun i x hx=>?_⟩
 obtain ⟨cs,g1,g2⟩:=h3 i x hx
 exact ⟨cs,Rep.frame (Dp.rp g1) (fun b _ hb=>⟨(h2 i b hb).1,rfl⟩),g2⟩
theorem DpS.fr (h:DpS w D a n c xs) (hf:∀ b,b< w.heap.size→D b→D' b∧w'.heap[b]? = w.heap[b]?):DpS w' D' a n c xs:=by
 obtain ⟨E,h1,h2,h3⟩:=h.el
 refine ⟨h.len,h.le,h.cap,h.addr,fun h0=>(hf _ (h.lt h0) (h.inD h0)).1,fun h0=>?_,fun i b=>E i b∧b< w.heap.size,fun i j b p q=>h1 i j b p.1 q.1,fun i b p=>⟨(hf b p.2 (h2 i b p.1).1).1,(h2 i b p.1).2⟩,fun i x hx=>?_⟩
 ·obtain ⟨cur,t,g⟩:=h.row h0
  exact ⟨cur,t,by rw [(hf _ (h.lt h0) (h.inD h0)).2]; exact g⟩
 ·obtain ⟨cs,g1,g2⟩:=h3 i x hx
  have hn:0< n:=by have:=(List.getElem?_eq_some_iff.1 hx).1; have:=h.len; omega
  refine ⟨cs,Dp.fr g1 (fun b hb hd=>⟨⟨hd,hb⟩,(hf b hb (h2 i b hd).1).2⟩),fun k u hu=>?_⟩
  have g3:=g2 k u hu
  rw [← g3,add_lit]
  exact World.cell?_of_block (hf _ (h.lt hn) (h.inD hn)).2
theorem DpS.nil (w:World) (D:Nat→Prop) (a:Option Addr) (c:Nat) (hc:c≤maxLen):DpS w D a 0 c ([]:List α) :=
 ⟨rfl,Nat.zero_le _,hc,fun h=>absurd h AB,fun h=>absurd h AB,fun h=>absurd h AB,fun _ _=>False,fun _ _ _ h=>h.elim,fun _ _ h=>h.elim,fun i x hx=>by simp at hx⟩
end
instance {α:Type}[Rep α] [Dp α]:Dp (List α) where
 dp w D xs cs:=∃ a c,cs=[.slice a xs.length c]∧DpS w D a xs.length c xs
 rp:=by rintro w D x cs ⟨a,c,rfl,h⟩; exact ⟨a,_,c,rfl,h.rep⟩
 fr:=by rintro w w' D D' x cs ⟨a,c,rfl,h⟩ hf; exact ⟨a,c,rfl,h.fr hf⟩
structure Hd (k:Nat) where
 cs:List Value
 ok:(Nat.beq cs.length (k+1)&&cs.all Cy)=true
instance {k:Nat}:Rep (Hd k) where
 sz:=k+1
 rep _ _ x cs:=cs=x.cs
 len:=by
  rintro w F x cs rfl
  have:=x.ok
  rw [AW] at this
  exact Nat.eq_of_beq_eq_true this.1
 pos:=Nat.succ_pos _
 flat:=by
  rintro w F x cs rfl v hv
  have:=x.ok
  rw [AW] at this
  exact List.all_eq_true.1 this.2 v hv
 frame:=by rintro w w' F F' x cs rfl _; rfl
inductive It:Type 1 where
 | s {α:Type} [Rep α] [Dp α] (a:Option Addr) (c:Nat) (xs:List α)
 | e {α:Type} [Rep α] [Dp α] {k:Nat} (xs:List α) (hs:List (Hd k))
def ElS {α:Type}[Rep α] [Dp α] (w:World) (D:Nat→Prop){k:Nat}(xs:List α) (hs:List (Hd k)):Prop :=
 hs.length=xs.length∧∃ E:Nat→Nat→Prop,(∀ i j b,E i b→E j b→i=j)∧(∀ i b,E i b→D b)∧∀ (i:Nat) (x:α) (h:Hd k),xs[i]? = some x→hs[i]? = some h→Dp.dp w (E i) x h.cs
def It.ok (w:World) (D:Nat→Prop):It→Prop
 | @It.s _ _ _ a c xs=>DpS w D a xs.length c xs
 | @It.e _ _ _ _ xs hs=>ElS w D xs hs
theorem It.fr {w w':World}{D D':Nat→Prop}{i:It}(h:i.ok w D) (hf:∀ b,b< w.heap.size→D b→D' b∧w'.heap[b]? = w.heap[b]?):i.ok w' D':=by
 cases i with
 | s a c xs=>exact DpS.fr h hf
 | e xs hs =>
   obtain ⟨hl,E,h1,h2,h3⟩:=h
   exact ⟨hl,fun i b=>E i b∧b< w.heap.size,fun i j b p q=>h1 i j b p.1 q.1,fun i b p=>(hf b p.2 (h2 i b p.1)).1,fun i x cs hx hc=>Dp.fr (h3 i x cs hx hc) (fun b hb hd=>⟨⟨hd,hb⟩,(hf b hb (h2 i b hd)).2⟩)⟩
def BK (w:World):(Nat→Prop)→List It→Prop
 | _,[]=>True
 | X,it::r=>∃ D D':Nat→Prop,it.ok w D∧BK w D' r∧(∀ b,D b→X b∧¬ D' b)∧∀ b,D' b→X b
theorem Cj {w w':World}:∀ {its:List It}{X X':Nat→Prop},BK w X its→(∀ b,b< w.heap.size→X b→X' b∧w'.heap[b]? = w.heap[b]?)→BK w' X' its
 | [],_,_,_,_=>trivial
 | it :: r, X, X', ⟨D, D', h1, h2, h3, h4⟩, hf => by
   refine ⟨fun b=>D b∧b< w.heap.size,fun b=>D' b∧b< w.heap.size,It.fr h1 (fun b hb hd=>⟨⟨hd,hb⟩,(hf b hb (h3 b hd).1).2⟩),Cj h2 (fun b hb hd=>⟨⟨hd,hb⟩,(hf b hb (h4 b hd)).2⟩),fun b hb=>⟨(hf b hb.2 (h3 b hb.1).1).1,fun h=>(h3 b hb.1).2 h.1⟩,fun b hb=>(hf b hb.2 (h4 b hb.1)).1⟩
theorem CU {w:World}{its:List It}{X X':Nat→Prop}(h:BK w X its) (hf:∀ b,b< w.heap.size→X b→X' b):BK w X' its:=Cj h fun b hb hx=>⟨hf b hb hx,rfl⟩
theorem Hr {w:World}:∀ {l r:List It}{D D' X:Nat→Prop},BK w D l→BK w D' r→(∀ b,D b→¬ D' b)→(∀ b,D b→X b)→(∀ b,D' b→X b)→BK w X (l++r)
 | [],r,D,D',X,_,h2,_,_,h5=>CU h2 fun b _ hb=>h5 b hb
 | it :: l, r, D, D', X, ⟨A, B, g1, g2, g3, g4⟩, h2, h3, h4, h5 => by
   refine ⟨A,fun b=>B b∨D' b,g1,Hr g2 h2 (fun b hb hd=>h3 b (g4 b hb) hd) (fun b hb=>.inl hb) (fun b hb=>.inr hb),fun b hb=>⟨h4 b (g3 b hb).1,fun hq=>hq.elim (g3 b hb).2 (h3 b (g3 b hb).1)⟩,fun b hb=>hb.elim (fun h=>h4 b (g4 b h)) (h5 b)⟩
theorem Ll {w:World}:∀ {l r:List It}{X:Nat→Prop},BK w X (l++r)→∃ D D':Nat→Prop,BK w D l∧BK w D' r∧(∀ b,D b→X b∧¬ D' b)∧∀ b,D' b→X b
 | [],r,X,h=>⟨fun _=>False,X,trivial,h,fun _ h=>h.elim,fun _ h=>h⟩
 | it :: l, r, X, ⟨A, B, g1, g2, g3, g4⟩ => by
   obtain ⟨D,D',e1,e2,e3,e4⟩:=Ll g2
   exact ⟨fun b=>A b∨D b,D',⟨A,D,g1,e1,fun b hb=>⟨.inl hb,fun hd=>(g3 b hb).2 (e3 b hd).1⟩,fun b hb=>.inr hb⟩,e2,fun b hb=>hb.elim (fun h=>⟨(g3 b h).1,fun hd=>(g3 b h).2 (e4 b hd)⟩) (fun h=>⟨g4 b (e3 b h).1,(e3 b h).2⟩),fun b hb=>g4 b (e4 b hb)⟩
theorem TN {w:World}{X:Nat→Prop}{l l':List It}(h:BK w X l) (hp:l.Perm l'):BK w X l':=by
 induction hp generalizing X with
 | nil=>trivial
 | cons x _ ih =>
   obtain ⟨D,D',g1,g2,g3,g4⟩:=h
   exact ⟨D,D',g1,ih g2,g3,g4⟩
 | swap x y r =>
   obtain ⟨D,D',g1,⟨A,B,e1,e2,e3,e4⟩,g3,g4⟩:=h
   exact ⟨A,fun b=>D b∨B b,e1,⟨D,B,g1,e2,fun b hb=>⟨.inl hb,fun hB=>(g3 b hb).2 (e4 b hB)⟩,fun b hb=>.inr hb⟩,fun b hb=>⟨g4 b (e3 b hb).1,fun hq=>hq.elim (fun hd=>(g3 b hd).2 (e3 b hb).1) (e3 b hb).2⟩,fun b hb=>hb.elim (fun hd=>(g3 b hd).1) (fun hB=>g4 b (e4 b hB))⟩
 | trans _ _ ih1 ih2=>exact ih2 (ih1 h)
theorem FJ {w:World}{X:Nat→Prop}{l r:List It}(h:BK w X (l++r)):BK w X l:=by
 obtain ⟨D,D',g1,_,g3,_⟩:=Ll h
 exact CU g1 fun b _ hb=>(g3 b hb).1
theorem RT {α:Type _}:∀ (l:List α) (j:Nat) (x:α),l[j]? = some x→l.Perm (x::l.eraseIdx j)
 | [],j,x,h=>by simp at h
 | y::l,0,x,h=>by simp at h; subst h; exact List.Perm.refl _
 | y :: l, j + 1, x, h => by
   rw [List.getElem?_cons_succ] at h
   exact (List.Perm.cons y (RT l j x h)).trans (List.Perm.swap x y _)
def mvI (its:List It) (j:Nat):List It:=match its[j]? with | some it=>it::its.eraseIdx j | none=>its
theorem Xx {w:World}{X:Nat→Prop}{its:List It}(h:BK w X its) (j:Nat):BK w X (mvI its j):=by
 unfold mvI
 split
 ·rename_i it hj
  exact TN h (RT _ _ _ hj)
 ·exact h
def mvs (its:List It):List Nat→List It
 | []=>its
 | j::js=>mvs (mvI its j) js
theorem LM {w:World}{X:Nat→Prop}:∀ (js:List Nat){its:List It},BK w X its→BK w X (mvs its js)
 | [],_,h=>h
 | j::js,_,h=>LM js (Xx h j)
end Go.Proofs.YtcginoabkicdiaaGreat
namespace Go.Proofs.YtcginoabkicdiaaGreat
inductive Ob:Type 1 where
 | box (b t:Nat) (cs:List Value)
 | own {α:Type} [Rep α] (g b t c:Nat) (xs:List α)
 | raw {α β:Type} [Rep β] (g b t c:Nat) (xs:List α) (hs:List β)
inductive Fr:Type 1 where
 | rep {α:Type} [Rep α] (a:Option Addr) (c:Nat) (xs:List α)
 | has (b o:Nat) (cs:List Value)
 | sep (its:List It)
structure Fz:Type 1 where
 g:Nat
 l:Option (Nat × List Nat)
 r:Fr
structure Cx where
 F:Nat→Prop
 w:World
 L:List Nat
structure Rg where
 s:Nat
 M:List Nat
 O:List Nat
def Ob.b:Ob→Nat | .box b _ _=>b | @Ob.own _ _ _ b _ _ _=>b | @Ob.raw _ _ _ _ b _ _ _ _=>b
def bl (Φ:List Ob):List Nat:=Φ.map Ob.b
def Cx.g (κ:Cx):Nat→Nat→Prop | 0=>ge κ.w.heap.size | 1=>fo κ.F κ.w.heap.size | _=>all
def Cx.d (κ:Cx) (g:Nat):Option (Nat × List Nat)→Nat→Prop | none=>κ.g g | some s=>fun b=>κ.g g b∧b< s.1∧b∉s.2
def Ob.ok (κ:Cx) (M:List Nat) (w:World):Ob→Prop
 | .box b t cs=>Box w b t cs
 | @Ob.own _ _ g b t c xs=>Own w b t (nin (κ.g g) M) xs.length c xs∧κ.w.heap.size≤b
 | @Ob.raw _ _ _ g b t c xs hs=>Own w b t (nin (κ.g g) M) xs.length c hs∧κ.w.heap.size≤b
def Fr.ok (w:World) (D:Nat→Prop):Fr→Prop
 | @Fr.rep _ _ a c xs=>RepS w D a xs.length c xs
 | .has b o cs=>Has w ⟨b,o,none⟩ cs∧D b∧b< w.heap.size
 | .sep its=>BK w D its
def Fz.ok (κ:Cx) (M:List Nat) (w:World) (f:Fz):Prop:=f.r.ok w (nin (κ.d f.g f.l) M)
def rS:Option Rg→Nat→Prop | none=>nil | some ρ=>fun b=>b∉ρ.O∧(b∈ρ.M∨ρ.s≤b)
def rOk (ρ:Option Rg) (Φ:List Ob) (w:World):Prop:=match ρ with | none=>True | some ρ=>ρ.s≤w.heap.size∧∀ b∈bl Φ,b∈ρ.M∨ρ.s≤b
structure St (κ:Cx) (ρ:Option Rg) (Φ:List Ob) (Ψ:List Fz) (Θ:List (Nat × Nat × List Value)) (w:World):Prop where
 nd:(bl Φ).Nodup
 lt:∀ b∈bl Φ,b< w.heap.size
 cv:∀ b∈bl Φ,b∈κ.L∨κ.w.heap.size≤b
 ob:∀ o∈Φ,o.ok κ (bl Φ) w
 fz:∀ f∈Ψ,f.ok κ (bl Φ) w
 th:∀ p∈Θ,Has w ⟨p.1,p.2.1,none⟩ p.2.2∧p.1< w.heap.size
 ch:Chg (ins κ.L) κ.w w
 rg:rOk ρ Φ w
section
variable {κ:Cx} {ρ:Option Rg} {Φ Φ':List Ob} {Ψ Ψ':List Fz} {Θ:List (Nat × Nat × List Value)} {w w':World} {M M':List Nat} {o o':Ob} {f:Fz} {b i r:Nat}
theorem Fr.fr {D D':Nat→Prop}{x:Fr}(h:x.ok w D) (hf:∀ b,b< w.heap.size→D b→D' b∧w'.heap[b]? = w.heap[b]?) (hs:w.heap.size≤w'.heap.size):x.ok w' D':=by
 cases x with
 | rep a c xs=>exact RepS.frame h hf
 | has b o cs =>
   obtain ⟨h1,h2,h3⟩:=h
   obtain ⟨h4,h5⟩:=hf b h3 h2
   refine ⟨fun i u hu=>?_,h4,by omega⟩
   have h6:=h1 i u hu
   rw [add_lit] at h6 ⊢
   rw [← h6]
   exact World.cell?_of_block h5
 | sep its=>exact Cj h hf
theorem Fz.mv (h:f.ok κ M w) (hm:Mv M M' w w') (hs:w.heap.size≤w'.heap.size):f.ok κ M' w' :=
 Fr.fr h (fun b hb hd=>⟨⟨hd.1,(hm b hb hd.2).1⟩,(hm b hb hd.2).2⟩) hs
theorem Ob.mv (h:o.ok κ M w) (hm:Mv M M' w w') (hx:Chg (one r) w w') (hr:o.b≠r):o.ok κ M' w':=by
 cases o with
 | box b t cs=>exact Box.mv h hx hr
 | own g b t c xs=>exact ⟨Own.mv h.1 hm hx hr,h.2⟩
 | raw g b t c xs hs=>exact ⟨Own.mv h.1 hm hx hr,h.2⟩
theorem Ob.me (h:o.ok κ M w) (hm:Mv M M' w w') (hx:Ext w w'):o.ok κ M' w':=by
 cases o with
 | box b t cs=>exact Box.mv h hx (fun h=>h)
 | own g b t c xs=>exact ⟨Own.mv h.1 hm hx (fun h=>h),h.2⟩
 | raw g b t c xs hs=>exact ⟨Own.mv h.1 hm hx (fun h=>h),h.2⟩
theorem St.e (Z:St κ ρ Φ Ψ Θ w) (hx:Ext w w'):St κ ρ Φ Ψ Θ w' where
 nd:=Z.nd
 lt b hb:=Nat.lt_of_lt_of_le (Z.lt b hb) hx.size
 cv:=Z.cv
 ob o ho:=Ob.me (Z.ob o ho) (Mv.ext hx) hx
 fz f hf:=Fz.mv (Z.fz f hf) (Mv.ext hx) hx.size
 th p hp:=⟨(Z.th p hp).1.ext hx,Nat.lt_of_lt_of_le (Z.th p hp).2 hx.size⟩
 ch:=Chg.step Z.ch hx (fun _ h _=>h.elim)
 rg:=by
  have:=Z.rg
  unfold rOk at *
  split at this
  ·trivial
  ·exact ⟨Nat.le_trans this.1 hx.size,this.2⟩
theorem St.push (Z:St κ ρ Φ Ψ Θ w) (hx:Ext w w') (hb:w.heap.size≤o.b) (hl:o.b< w'.heap.size) (ho:o.ok κ (o.b::bl Φ) w'):St κ ρ (o::Φ) Ψ Θ w' where
 nd:=List.nodup_cons.2 ⟨fun h=>by have:=Z.lt _ h; omega,Z.nd⟩
 lt b h:=by
  rcases List.mem_cons.1 h with rfl | h
  ·exact hl
  ·exact (Z.e hx).lt b h
 cv b h:=by
  rcases List.mem_cons.1 h with rfl | h
  ·exact .inr (Nat.le_trans Z.ch.size hb)
  ·exact Z.cv b h
 ob x h:=by
  rcases List.mem_cons.1 h with rfl | h
  ·exact ho
  ·exact Ob.me (Z.ob x h) (Mv.cons (Mv.ext hx) hb) hx
 fz f hf:=Fz.mv (Z.fz f hf) (Mv.cons (Mv.ext hx) hb) hx.size
 th:=(Z.e hx).th
 ch:=(Z.e hx).ch
 rg:=by
  have:=(Z.e hx).rg
  have h1:=Z.rg
  unfold rOk at *
  split at this
  ·trivial
  ·refine ⟨this.1,fun b h=>?_⟩
   rcases List.mem_cons.1 h with rfl | h
   ·exact .inr (Nat.le_trans h1.1 hb)
   ·exact this.2 b h
theorem Jm:bl (Φ.set i o)=(bl Φ).set i o.b:=by simp [bl,List.map_set]
theorem D2 (h:Φ[i]? = some o):(bl Φ)[i]? = some o.b:=by simp [bl,h]
theorem Ck (h:Φ[i]? = some o):o.b∈bl Φ:=AV (D2 h)
theorem Hs {α:Type _}{l:List α}{x y:α}{i:Nat}(h:y∈l.set i x):y=x∨∃ j,j≠i∧l[j]? = some y:=by
 obtain ⟨j,hj⟩:=List.mem_iff_getElem?.1 h
 rw [List.getElem?_set] at hj
 split at hj
 ·split at hj
  ·exact .inl (Option.some.inj hj).symm
  ·cases hj
 ·rename_i hn; exact .inr ⟨j,fun e=>hn e.symm,hj⟩
theorem HB {l:List Nat}(h:l.Nodup){i j x y:Nat}(hi:l[i]? = some x) (hj:l[j]? = some y) (hn:j≠i):y≠x:=by
 rintro rfl
 obtain ⟨h1,e1⟩:=List.getElem?_eq_some_iff.1 hi
 obtain ⟨h2,e2⟩:=List.getElem?_eq_some_iff.1 hj
 have key:=List.pairwise_iff_getElem.1 h
 rcases Nat.lt_trichotomy i j with hlt | rfl | hlt
 ·exact key i j h1 h2 hlt (e1.trans e2.symm)
 ·exact hn rfl
 ·exact key j i h2 h1 hlt (e2.trans e1.symm)
theorem XF {l:List Nat}(h:∀ (i j x:Nat),l[i]? = some x→l[j]? = some x→i=j):l.Nodup:=List.pairwise_iff_getElem.2 fun i j hi hj hlt e=>by
 have:=h i j l[i] AD (by simp [e])
 omega
theorem St.put (Z:St κ ρ Φ Ψ Θ w) (hi:Φ[i]? = some o) (hx:Chg (one o.b) w w') (hor:o'.b=o.b∨w.heap.size≤o'.b) (hl:o'.b< w'.heap.size)
 (ho:o'.ok κ (bl (Φ.set i o')) w'):St κ ρ (Φ.set i o') Ψ [] w':=by
 have hmem:=Ck hi
 have hm:Mv (bl Φ) (bl (Φ.set i o')) w w':=Mv.mk hx (fun k hk hn=>⟨fun h=>by
  rw [Jm] at h
  rcases Hs h with rfl | ⟨j,_,hj⟩
  ·rcases hor with e | e
   ·exact hn (e▸hmem)
   ·omega
  ·exact hn (AV hj),fun e=>hn (by cases e; exact hmem)⟩)
 have hcase:∀ b∈bl (Φ.set i o'),b=o'.b∨b∈bl Φ:=fun b hb=>by
  rw [Jm] at hb
  rcases Hs hb with rfl | ⟨j,_,hj⟩
  ·exact .inl rfl
  ·exact .inr (AV hj)
 refine ⟨?_,fun b hb=>?_,fun b hb=>?_,fun x hxm=>?_,fun f hf=>Fz.mv (Z.fz f hf) hm hx.size,(fun p hp=>by cases hp),?_,?_⟩
 ·rw [Jm]
  have hat:=D2 hi
  have hnd:=Z.nd
  have key:∀ j,j≠i→∀ y,(bl Φ)[j]? = some y→y≠o'.b:=fun j hj y hy e=>by
   rcases hor with h | h
   ·exact HB hnd hat hy hj (e.trans h)
   ·have:=Z.lt y (AV hy); omega
  refine XF fun a c x ha hc=>?_
  rw [List.getElem?_set] at ha hc
  have hlt:=(List.getElem?_eq_some_iff.1 hat).1
  by_cases h1:i=a
  ·by_cases h2:i=c
   ·omega
   ·simp only [h1,if_true] at ha
    rw [if_neg h2] at hc
    split at ha
    ·cases ha; exact absurd rfl (key c (fun e=>h2 e.symm) _ hc)
    ·cases ha
  ·rw [if_neg h1] at ha
   by_cases h2:i=c
   ·simp only [h2,if_true] at hc
    split at hc
    ·cases hc; exact absurd rfl (key a (fun e=>h1 e.symm) _ ha)
    ·cases hc
   ·rw [if_neg h2] at hc
    exact Classical.byContradiction fun hne=>HB hnd ha hc (fun e=>hne e.symm) rfl
 ·rcases hcase b hb with rfl | hb
  ·exact hl
  ·exact Nat.lt_of_lt_of_le (Z.lt b hb) hx.size
 ·rcases hcase b hb with rfl | hb
  ·rcases hor with e | e
   ·rw [e]; exact Z.cv _ hmem
   ·exact .inr (Nat.le_trans Z.ch.size e)
  ·exact Z.cv b hb
 ·rcases Hs hxm with rfl | ⟨j,hj,he⟩
  ·exact ho
  ·exact Ob.mv (Z.ob x (AV he)) hm hx (HB Z.nd (D2 hi) (D2 he) hj)
 ·exact Chg.step Z.ch hx (fun k hk hlt=>by
   cases hk
   rcases Z.cv _ hmem with h | h
   ·exact h
   ·omega)
 ·have:=Z.rg
  unfold rOk at *
  split at this
  ·trivial
  ·refine ⟨Nat.le_trans this.1 hx.size,fun b hb=>?_⟩
   rcases hcase b hb with rfl | hb
   ·rcases hor with e | e
    ·rw [e]; exact this.2 _ hmem
    ·exact .inr (Nat.le_trans this.1 e)
   ·exact this.2 b hb
theorem St.less (Z:St κ ρ Φ Ψ Θ w) (h1:Φ'.Sublist Φ) (h2:∀ f∈Ψ',f∈Ψ){Θ':List (Nat × Nat × List Value)}(h3:∀ p∈Θ',p∈Θ):St κ ρ Φ' Ψ' Θ' w:=by
 have hb:∀ b∈bl Φ',b∈bl Φ:=fun b h=>(h1.map Ob.b).subset h
 have hm:Mv (bl Φ) (bl Φ') w w:=Mv.less hb
 refine ⟨Z.nd.sublist (h1.map _),fun b h=>Z.lt b (hb b h),fun b h=>Z.cv b (hb b h),fun o ho=>Ob.me (Z.ob o (h1.subset ho)) hm (Ext.refl _),fun f hf=>Fz.mv (Z.fz f (h2 f hf)) hm (Nat.le_refl _),fun p hp=>Z.th p (h3 p hp),Z.ch,?_⟩
 have:=Z.rg
 unfold rOk at *
 split at this
 ·trivial
 ·exact ⟨this.1,fun b h=>this.2 b (hb b h)⟩
theorem St.add (Z:St κ ρ Φ Ψ Θ w) (h:∀ f∈Ψ',f.ok κ (bl Φ) w):St κ ρ Φ (Ψ'++Ψ) Θ w :=
 ⟨Z.nd,Z.lt,Z.cv,Z.ob,fun f hf=>(List.mem_append.1 hf).elim (h f) (Z.fz f),Z.th,Z.ch,Z.rg⟩
end
end Go.Proofs.YtcginoabkicdiaaGreat
namespace Go.Proofs.YtcginoabkicdiaaGreat
section
variable {α:Type} [Rep α]
def Kn (w:World) (F:Nat→Prop):List α→List Value→Prop
 | [],cs=>cs=[]
 | x::xs,cs=>Rep.rep w F x (cs.take (Rep.sz α))∧Kn w F xs (cs.drop (Rep.sz α))
variable {w:World} {F:Nat→Prop}
theorem Kn.len:∀ {xs:List α}{cs:List Value},Kn w F xs cs→cs.length=xs.length * Rep.sz α
 | [],cs,h=>by simp only [Kn] at h; subst h; simp
 | x :: xs, cs, h => by
   have h1:=Rep.len h.1
   have h2:=Kn.len h.2
   have hp:=Rep.pos (α:=α)
   simp only [List.length_take,List.length_drop,List.length_cons,Nat.succ_mul] at *
   omega
theorem Kn.at:∀ {xs:List α}{cs:List Value},Kn w F xs cs→∀ i x,xs[i]? = some x→Rep.rep w F x ((cs.drop (i * Rep.sz α)).take (Rep.sz α))
 | [],cs,_=>fun i x hx=>by simp at hx
 | y :: ys, cs, h => fun i x hx => by
   cases i with
   | zero=>simp at hx; subst hx; simpa using h.1
   | succ i =>
     simp only [List.getElem?_cons_succ] at hx
     have:=Kn.at h.2 i x hx
     rw [List.drop_drop] at this
     rwa [Nat.succ_mul,Nat.add_comm]
theorem Own.lit {w:World}{r:Nat}{t:TypeId}{F:Nat→Prop}{n:Nat}{xs:List α}{cs:List Value}(h:Box w r t cs) (hn:n=xs.length) (hc:n≤maxLen) (hl:Kn w (fun b=>F b∧b≠r) xs cs):Own w r t F n n xs:=by
 have hlen:=hl.len
 refine ⟨hn,Nat.le_refl _,hc,⟨cs.toArray,h,by simp [hlen,hn]⟩,fun i x hi=>⟨_,hl.at i x hi,?_⟩⟩
 have hlt:i< xs.length:=(List.getElem?_eq_some_iff.1 hi).1
 refine h.has _ _ ?_
 rw [List.length_take,List.length_drop,hlen]
 have:(i+1) * Rep.sz α≤xs.length * Rep.sz α:=Nat.mul_le_mul_right _ hlt
 rw [Nat.succ_mul] at this
 rw [Nat.min_eq_left AB]
end
section
variable {P:Program} {n:Nat} {K:Env→World→Prop} {ops:Array Oper} {j:Nat} {e:Env} {w:World}
theorem RG.int32 (z:Int) (h:Iy P n ops j e=some (.int .i32 (IntKind.i32.wrap z))) (hz:-2147483648≤z∧z≤2147483647)
 (H:RG P n K ops (j+1) (Ag e (Ad ops j).dst (.int .i32 z)) w):RG P n K ops j e w :=
 RG.eqv h (by rw [IntWalk.i32_in z hz]) H
end
theorem RU (k:Nat) (h:k< 128):Value.string (Utf8.encode (k:Int))=.string (bs [UInt8.ofNat k]):=by
 refine congrArg Value.string ?_
 unfold Utf8.encode
 have hv:Utf8.valid (k:Int)=true:=by
  unfold Utf8.valid
  simp
  omega
 simp only [hv,if_true]
 simp [h,bs]
end Go.Proofs.YtcginoabkicdiaaGreat
namespace Go.Proofs.YtcginoabkicdiaaGreat
def obB (Φ:List Ob) (i:Nat):Nat:=match Φ[i]? with | some o=>o.b | none=>0
def bxT (Φ:List Ob) (i:Nat):Nat:=match Φ[i]? with | some (.box _ t _)=>t | _=>0
def bxC (Φ:List Ob) (i:Nat):List Value:=match Φ[i]? with | some (.box _ _ cs)=>cs | _=>[]
def owG (Φ:List Ob) (i:Nat):Nat:=match Φ[i]? with | some (@Ob.own _ _ g _ _ _ _)=>g | some (@Ob.raw _ _ _ g _ _ _ _ _)=>g | _=>0
def owT (Φ:List Ob) (i:Nat):Nat:=match Φ[i]? with | some (@Ob.own _ _ _ _ t _ _)=>t | some (@Ob.raw _ _ _ _ _ t _ _ _)=>t | _=>0
def owC (Φ:List Ob) (i:Nat):Nat:=match Φ[i]? with | some (@Ob.own _ _ _ _ _ c _)=>c | some (@Ob.raw _ _ _ _ _ _ c _ _)=>c | _=>0
def fzG (Ψ:List Fz) (i:Nat):Nat:=match Ψ[i]? with | some f=>f.g | none=>0
def fzL (Ψ:List Fz) (i:Nat):Option (Nat × List Nat):=match Ψ[i]? with | some f=>f.l | none=>none
def fzA (Ψ:List Fz) (i:Nat):Option Addr:=match Ψ[i]? with | some ⟨_,_,@Fr.rep _ _ a _ _⟩=>a | _=>none
def fzC (Ψ:List Fz) (i:Nat):Nat:=match Ψ[i]? with | some ⟨_,_,@Fr.rep _ _ _ c _⟩=>c | _=>0
def haB (Ψ:List Fz) (i:Nat):Nat:=match Ψ[i]? with | some ⟨_,_,.has b _ _⟩=>b | _=>0
def haO (Ψ:List Fz) (i:Nat):Nat:=match Ψ[i]? with | some ⟨_,_,.has _ o _⟩=>o | _=>0
def haC (Ψ:List Fz) (i:Nat):List Value:=match Ψ[i]? with | some ⟨_,_,.has _ _ cs⟩=>cs | _=>[]
def thE (Θ:List (Nat × Nat × List Value)) (i:Nat):Nat × Nat × List Value:=match Θ[i]? with | some p=>p | none=>(0,0,[])
def acs (Ψ:List Fz) (is:List Nat):List (Option Addr × Nat):=is.map fun i=>(fzA Ψ i,fzC Ψ i)
def frs (Ψ:List Fz) (is:List Nat):List (Option Fr):=is.map fun i=>match Ψ[i]? with | some f=>some f.r | none=>none
class Shp (α:Type) [Rep α] where
 k:Nat
 cells:α→List (Option Addr × Nat)→List Value
 facts:α→List (Option Addr × Nat)→List Fr
 of:∀ {w F x cs},Rep.rep w F x cs→∃ l:List (Option Addr × Nat),l.length=k∧cs=cells x l∧∀ f∈facts x l,f.ok w F
 un:∀ {w F x} (l:List (Option Addr × Nat)),(∀ f∈facts x l,f.ok w F)→Rep.rep w F x (cells x l)
def Fa:Nat→(List (Option Addr × Nat)→Prop)→Prop
 | 0,p=>p []
 | n+1,p=>∀ a c,Fa n fun l=>p ((a,c)::l)
theorem Fe (n:Nat):∀ {p:List (Option Addr × Nat)→Prop}{l:List (Option Addr × Nat)},Fa n p→l.length=n→p l:=by
 induction n with
 | zero=>intro p l h hl; rw [List.eq_nil_of_length_eq_zero hl]; exact h
 | succ n ih =>
   intro p l h hl
   cases l with
   | nil=>cases hl
   | cons q l=>exact ih (p:=fun l=>p ((q.1,q.2)::l)) (h q.1 q.2) (by simpa using hl)
def tg (g:Nat) (l:Option (Nat × List Nat)) (fs:List Fr):List Fz:=fs.map fun f=>⟨g,l,f⟩
section
variable {P:Program} {S:Nat→Prop} {n m:Nat} {K L:Env→World→Prop} {ops:Array Oper} {j:Nat} {l:List Nat} {e:Env}
variable {κ:Cx} {ρ:Option Rg} {Φ Φ':List Ob} {Ψ Ψ':List Fz} {Θ:List (Nat × Nat × List Value)} {w w':World} {α:Type} [Rep α] {xs ys:List α} {x y:α}
theorem St.bx (Z:St κ ρ Φ Ψ Θ w) (i:Nat) (h:Φ[i]? = some (.box (obB Φ i) (bxT Φ i) (bxC Φ i))):Box w (obB Φ i) (bxT Φ i) (bxC Φ i) :=
 Z.ob _ (AV h)
theorem St.ow (Z:St κ ρ Φ Ψ Θ w) (i:Nat) (xs:List α) (h:Φ[i]? = some (.own (owG Φ i) (obB Φ i) (owT Φ i) (owC Φ i) xs)) :
 Own w (obB Φ i) (owT Φ i) (nin (κ.g (owG Φ i)) (bl Φ)) xs.length (owC Φ i) xs∧κ.w.heap.size≤obB Φ i :=
 Z.ob _ (AV h)
theorem St.f (Z:St κ ρ Φ Ψ Θ w) (i:Nat) (xs:List α) (h:Ψ[i]? = some ⟨fzG Ψ i,fzL Ψ i,.rep (fzA Ψ i) (fzC Ψ i) xs⟩:=by kernel_rfl) :
 RepS w (nin (κ.d (fzG Ψ i) (fzL Ψ i)) (bl Φ)) (fzA Ψ i) xs.length (fzC Ψ i) xs :=
 Z.fz _ (AV h)
theorem St.ha (Z:St κ ρ Φ Ψ Θ w) (i:Nat) (h:Ψ[i]? = some ⟨fzG Ψ i,fzL Ψ i,.has (haB Ψ i) (haO Ψ i) (haC Ψ i)⟩) :
 Has w ⟨haB Ψ i,haO Ψ i,none⟩ (haC Ψ i)∧nin (κ.d (fzG Ψ i) (fzL Ψ i)) (bl Φ) (haB Ψ i)∧haB Ψ i< w.heap.size :=
 Z.fz _ (AV h)
theorem St.a (Z:St κ ρ Φ Ψ Θ w) (i:Nat) (h:Ψ[i]? = some ⟨fzG Ψ i,fzL Ψ i,.rep (fzA Ψ i) (fzC Ψ i) xs⟩:=by kernel_rfl):RepS w all (fzA Ψ i) xs.length (fzC Ψ i) xs:=(Z.f i xs h).ta
theorem St.oa (Z:St κ ρ Φ Ψ Θ w) (i:Nat) (h:Φ[i]? = some (.own (owG Φ i) (obB Φ i) (owT Φ i) (owC Φ i) xs):=by kernel_rfl):RepS w all (some ⟨obB Φ i,0,none⟩) xs.length (owC Φ i) xs:=(Z.ow i xs h).1.rep
theorem St.ob' (Z:St κ ρ Φ Ψ Θ w) (i nn:Nat) (hn:xs.length=nn:=by omega) (h:Φ[i]? = some (.own (owG Φ i) (obB Φ i) (owT Φ i) (owC Φ i) xs):=by kernel_rfl):RepS w all (some ⟨obB Φ i,0,none⟩) nn (owC Φ i) xs:=hn▸Z.oa i h
theorem St.na (_:St κ ρ Φ Ψ Θ w):RepS w all none 0 0 ([]:List α):=RepS.Bv _ all none 0 AE
theorem St.mf (Z:St κ ρ Φ Ψ Θ w) (i:Nat) (xs:List α) (h:Ψ[i]? = some ⟨fzG Ψ i,fzL Ψ i,.rep (fzA Ψ i) (fzC Ψ i) xs⟩:=by kernel_rfl):xs.length≤9223372036854775807:=(Z.f i xs h).max
theorem St.mo (Z:St κ ρ Φ Ψ Θ w) (i:Nat) (xs:List α) (h:Φ[i]? = some (.own (owG Φ i) (obB Φ i) (owT Φ i) (owC Φ i) xs):=by kernel_rfl):xs.length≤9223372036854775807:=(Z.ow i xs h).1.max
theorem gx {α:Type}{Q:Prop}(xs:List α) (i:Nat) (H:∀ y,xs[i]? = some y→Q) (h:i< xs.length:=by first | omega | (simp <;> omega)):Q:=H _ (AU h)
theorem St.el [Shp α] (Z:St κ ρ Φ Ψ Θ w) (i:Nat){k:Nat}(hx:xs[k]? = some x){Q:Prop}
 (H:Fa (Shp.k α) fun l=>St κ ρ Φ (tg (fzG Ψ i) (fzL Ψ i) (.has (blk (fzA Ψ i)) (off (fzA Ψ i)+k * Rep.sz α) (Shp.cells x l)::Shp.facts x l)++Ψ) Θ w→Q)
 (h:Ψ[i]? = some ⟨fzG Ψ i,fzL Ψ i,.rep (fzA Ψ i) (fzC Ψ i) xs⟩:=by kernel_rfl):Q:=by
 have hr:=Z.f i xs h
 obtain ⟨cs,h1,h2⟩:=hr.elem k x hx
 obtain ⟨l,hl,rfl,h3⟩:=Shp.of h1
 have hn:=QR hx
 refine Fe _ H hl (Z.add fun f hf=>?_)
 simp only [tg,List.map_cons,List.mem_cons,List.mem_map] at hf
 rcases hf with rfl | ⟨q,hq,rfl⟩
 ·exact ⟨h2,hr.inF hn,hr.blt hn⟩
 ·exact h3 q hq
theorem St.eo [Shp α] (Z:St κ ρ Φ Ψ Θ w) (i:Nat){k:Nat}(hx:xs[k]? = some x){Q:Prop}
 (H:Fa (Shp.k α) fun l=>St κ ρ Φ (tg (owG Φ i) none (Shp.facts x l)++Ψ) ((obB Φ i,0+k * Rep.sz α,Shp.cells x l)::Θ) w→Q)
 (h:Φ[i]? = some (.own (owG Φ i) (obB Φ i) (owT Φ i) (owC Φ i) xs):=by kernel_rfl):Q:=by
 have hr:=(Z.ow i xs h).1
 obtain ⟨cs,h1,h2⟩:=hr.elem k x hx
 obtain ⟨l,hl,rfl,h3⟩:=Shp.of h1
 have Z2:St κ ρ Φ (tg (owG Φ i) none (Shp.facts x l)++Ψ) Θ w:=Z.add fun f hf=>by
  simp only [tg,List.mem_map] at hf
  obtain ⟨q,hq,rfl⟩:=hf
  exact Fr.fr (h3 q hq) (fun b _ hb=>⟨hb.1,rfl⟩) (Nat.le_refl _)
 refine Fe _ H hl ⟨Z2.nd,Z2.lt,Z2.cv,Z2.ob,Z2.fz,fun p hp=>?_,Z2.ch,Z2.rg⟩
 rcases List.mem_cons.1 hp with rfl | hp
 ·exact ⟨by rw [Nat.zero_add]; exact h2,hr.lt⟩
 ·exact Z2.th p hp
theorem RG.Ix (i:Nat){k:Nat}(hx:xs[k]? = some x) (Z:St κ ρ Φ Ψ Θ w) (H:RG P n K ops (j+1) (Ag e (Ad ops j).dst (.pointer (some ⟨blk (fzA Ψ i),off (fzA Ψ i)+k * Rep.sz α,none⟩))) w)
 (h:Ψ[i]? = some ⟨fzG Ψ i,fzL Ψ i,.rep (fzA Ψ i) (fzC Ψ i) xs⟩:=by kernel_rfl) (hi:I0 P n ops j e=some (fzA Ψ i,xs.length,(k:Int),Rep.sz α):=by kernel_rfl):RG P n K ops j e w :=
 RG.ix k (Rep.sz α) (Z.f i xs h) (List.getElem?_eq_some_iff.1 hx).1 H hi
theorem GA.Ix (q i:Nat){k:Nat}(hx:xs[k]? = some x) (Z:St κ ρ Φ Ψ Θ w) (H:GA P S n m L ops (q::l) (Ag e (Ad ops q).dst (.pointer (some ⟨blk (fzA Ψ i),off (fzA Ψ i)+k * Rep.sz α,none⟩))) w)
 (h:Ψ[i]? = some ⟨fzG Ψ i,fzL Ψ i,.rep (fzA Ψ i) (fzC Ψ i) xs⟩:=by kernel_rfl) (hi:QP P n m ops l q e=some (fzA Ψ i,xs.length,(k:Int),Rep.sz α):=by kernel_rfl):GA P S n m L ops l e w :=
 GA.ix q k (Rep.sz α) (Z.f i xs h) (List.getElem?_eq_some_iff.1 hx).1 H hi
theorem RG.Jx (i:Nat) (z:Int){k:Nat}(hx:xs[k]? = some x) (Z:St κ ρ Φ Ψ Θ w) (H:RG P n K ops (j+1) (Ag e (Ad ops j).dst (.pointer (some ⟨blk (fzA Ψ i),off (fzA Ψ i)+k * Rep.sz α,none⟩))) w) (hz:z=(k:Int):=by omega)
 (h:Ψ[i]? = some ⟨fzG Ψ i,fzL Ψ i,.rep (fzA Ψ i) (fzC Ψ i) xs⟩:=by kernel_rfl) (hi:I0 P n ops j e=some (fzA Ψ i,xs.length,z,Rep.sz α):=by kernel_rfl):RG P n K ops j e w :=
 RG.Ix i hx Z H h (hz▸hi)
theorem GA.Jx (q i:Nat) (z:Int){k:Nat}(hx:xs[k]? = some x) (Z:St κ ρ Φ Ψ Θ w) (H:GA P S n m L ops (q::l) (Ag e (Ad ops q).dst (.pointer (some ⟨blk (fzA Ψ i),off (fzA Ψ i)+k * Rep.sz α,none⟩))) w) (hz:z=(k:Int):=by omega)
 (h:Ψ[i]? = some ⟨fzG Ψ i,fzL Ψ i,.rep (fzA Ψ i) (fzC Ψ i) xs⟩:=by kernel_rfl) (hi:QP P n m ops l q e=some (fzA Ψ i,xs.length,z,Rep.sz α):=by kernel_rfl):GA P S n m L ops l e w :=
 GA.Ix q i hx Z H h (hz▸hi)
theorem RG.Ko (i nn:Nat) (z:Int){k:Nat}(hx:xs[k]? = some x) (_:St κ ρ Φ Ψ Θ w) (H:RG P n K ops (j+1) (Ag e (Ad ops j).dst (.pointer (some ⟨obB Φ i,0+k * Rep.sz α,none⟩))) w) (hz:z=(k:Int):=by omega) (hn:k< nn:=by omega)
 (hi:I0 P n ops j e=some (some ⟨obB Φ i,0,none⟩,nn,z,Rep.sz α):=by kernel_rfl):RG P n K ops j e w:=RG.idx k hi hz hn rfl H
theorem GA.Ko (q i nn:Nat) (z:Int){k:Nat}(hx:xs[k]? = some x) (_:St κ ρ Φ Ψ Θ w) (H:GA P S n m L ops (q::l) (Ag e (Ad ops q).dst (.pointer (some ⟨obB Φ i,0+k * Rep.sz α,none⟩))) w) (hz:z=(k:Int):=by omega) (hn:k< nn:=by omega)
 (hi:QP P n m ops l q e=some (some ⟨obB Φ i,0,none⟩,nn,z,Rep.sz α):=by kernel_rfl):GA P S n m L ops l e w:=GA.idx k hi hz hn rfl H
theorem RG.Lb (i:Nat) (Z:St κ ρ Φ Ψ Θ w) (H:RG P n K ops (j+1) (lbE (bxC Φ i) n ops j e) w) (hb:Φ[i]? = some (.box (obB Φ i) (bxT Φ i) (bxC Φ i)):=by kernel_rfl)
 (h:loadAt n ops j e=some (ldT (loadAt n ops j e),⟨obB Φ i,ldO (loadAt n ops j e),none⟩):=by kernel_rfl)
 (hs:Bp P (ldT (loadAt n ops j e))=true:=by kernel_rfl) (hv:(bxC Φ i)[ldO (loadAt n ops j e)]? = some (ldV (bxC Φ i) (loadAt n ops j e)):=by kernel_rfl):RG P n K ops j e w :=
 RG.lb (Z.bx i hb) H h hs hv
theorem RG.Ln (i:Nat) (Z:St κ ρ Φ Ψ Θ w) (H:RG P n K ops (j+1) (lnE P (bxC Φ i) n ops j e) w) (hb:Φ[i]? = some (.box (obB Φ i) (bxT Φ i) (bxC Φ i)):=by kernel_rfl)
 (h:loadAt n ops j e=some (ldT (loadAt n ops j e),⟨obB Φ i,ldO (loadAt n ops j e),none⟩):=by kernel_rfl)
 (hs:F3 P (ldT (loadAt n ops j e)) (ldL P (bxC Φ i) (loadAt n ops j e)).length=true:=by kernel_rfl)
 (hv:((bxC Φ i).drop (ldO (loadAt n ops j e))).take (ldL P (bxC Φ i) (loadAt n ops j e)).length=ldL P (bxC Φ i) (loadAt n ops j e):=by kernel_rfl):RG P n K ops j e w :=
 RG.ln (Z.bx i hb) H h hs hv
theorem RG.Lh (i k:Nat) (Z:St κ ρ Φ Ψ Θ w) (H:RG P n K ops (j+1) (Ag e (Ad ops j).dst (((haC Ψ i)[k]?).getD undef)) w)
 (hf:Ψ[i]? = some ⟨fzG Ψ i,fzL Ψ i,.has (haB Ψ i) (haO Ψ i) (haC Ψ i)⟩:=by kernel_rfl)
 (h:loadAt n ops j e=some (ldT (loadAt n ops j e),⟨haB Ψ i,haO Ψ i+k,none⟩):=by kernel_rfl)
 (hs:Bp P (ldT (loadAt n ops j e))=true:=by kernel_rfl) (hv:(haC Ψ i)[k]? = some (((haC Ψ i)[k]?).getD undef):=by kernel_rfl):RG P n K ops j e w :=
 RG.lh k (Z.ha i hf).1 H h hs hv
theorem RG.Lg (i k:Nat) (Z:St κ ρ Φ Ψ Θ w) (H:RG P n K ops (j+1) (lgE P (haC Ψ i) k n ops j e) w)
 (hf:Ψ[i]? = some ⟨fzG Ψ i,fzL Ψ i,.has (haB Ψ i) (haO Ψ i) (haC Ψ i)⟩:=by kernel_rfl)
 (h:loadAt n ops j e=some (ldT (loadAt n ops j e),⟨haB Ψ i,haO Ψ i+k,none⟩):=by kernel_rfl)
 (hs:F3 P (ldT (loadAt n ops j e)) (ldH P (haC Ψ i) k (loadAt n ops j e)).length=true:=by kernel_rfl)
 (hv:((haC Ψ i).drop k).take (ldH P (haC Ψ i) k (loadAt n ops j e)).length=ldH P (haC Ψ i) k (loadAt n ops j e):=by kernel_rfl):RG P n K ops j e w :=
 RG.lg k (Z.ha i hf).1 H h hs hv
theorem St.thH (Z:St κ ρ Φ Ψ Θ w) (i:Nat) (h:Θ[i]? = some (thE Θ i)):Has w ⟨(thE Θ i).1,(thE Θ i).2.1,none⟩ (thE Θ i).2.2:=(Z.th _ (AV h)).1
theorem RG.Lt (i k:Nat) (Z:St κ ρ Φ Ψ Θ w) (H:RG P n K ops (j+1) (Ag e (Ad ops j).dst (((thE Θ i).2.2[k]?).getD undef)) w)
 (hf:Θ[i]? = some (thE Θ i):=by kernel_rfl)
 (h:loadAt n ops j e=some (ldT (loadAt n ops j e),⟨(thE Θ i).1,(thE Θ i).2.1+k,none⟩):=by kernel_rfl)
 (hs:Bp P (ldT (loadAt n ops j e))=true:=by kernel_rfl) (hv:(thE Θ i).2.2[k]? = some (((thE Θ i).2.2[k]?).getD undef):=by kernel_rfl):RG P n K ops j e w :=
 RG.lh k (Z.thH i hf) H h hs hv
def roE (ρ:Option Rg) (q b:Nat):Option Nat:=match ρ with | none=>some b | some ρ=>ρ.O[q]?
def roF (ρ:Option Rg):Option (Nat × List Nat):=match ρ with | none=>none | some ρ=>some (ρ.s,ρ.M)
theorem RV {q b:Nat}(h:roE ρ q b=some b):¬ rS ρ b:=by
 cases ρ with
 | none=>exact fun h=>h
 | some ρ=>exact fun h2=>h2.1 (AV h)
theorem St.Xy (_:St κ ρ Φ Ψ Θ w){g b:Nat}{l:Option (Nat × List Nat)}{M:List Nat}(h:l=roF ρ) (hb:nin (κ.d g l) M b):¬ rS ρ b:=by
 subst h
 cases ρ with
 | none=>exact fun h=>h
 | some ρ=>exact fun h2=>h2.2.elim hb.1.2.2 (fun h3=>by have:=hb.1.2.1; simp only [] at this; omega)
theorem GA.Lb (k i:Nat) (Z:St κ ρ Φ Ψ Θ w) (H:GA P (rS ρ) n m L ops (k::l) (lbG (bxC Φ i) n m ops l k e) w) (q:Nat:=0) (hq:roE ρ q (obB Φ i)=some (obB Φ i):=by kernel_rfl)
 (hb:Φ[i]? = some (.box (obB Φ i) (bxT Φ i) (bxC Φ i)):=by kernel_rfl)
 (h:BR n m ops l k e=some (ldT (BR n m ops l k e),⟨obB Φ i,ldO (BR n m ops l k e),none⟩):=by kernel_rfl)
 (hs:Bp P (ldT (BR n m ops l k e))=true:=by kernel_rfl) (hv:(bxC Φ i)[ldO (BR n m ops l k e)]? = some (ldV (bxC Φ i) (BR n m ops l k e)):=by kernel_rfl):GA P (rS ρ) n m L ops l e w :=
 GA.lb k (Z.bx i hb) (RV hq) H h hs hv
theorem GA.Ln (k i:Nat) (Z:St κ ρ Φ Ψ Θ w) (H:GA P (rS ρ) n m L ops (k::l) (lnG P (bxC Φ i) n m ops l k e) w) (q:Nat:=0) (hq:roE ρ q (obB Φ i)=some (obB Φ i):=by kernel_rfl)
 (hb:Φ[i]? = some (.box (obB Φ i) (bxT Φ i) (bxC Φ i)):=by kernel_rfl)
 (h:BR n m ops l k e=some (ldT (BR n m ops l k e),⟨obB Φ i,ldO (BR n m ops l k e),none⟩):=by kernel_rfl)
 (hs:F3 P (ldT (BR n m ops l k e)) (ldL P (bxC Φ i) (BR n m ops l k e)).length=true:=by kernel_rfl)
 (hv:((bxC Φ i).drop (ldO (BR n m ops l k e))).take (ldL P (bxC Φ i) (BR n m ops l k e)).length=ldL P (bxC Φ i) (BR n m ops l k e):=by kernel_rfl):GA P (rS ρ) n m L ops l e w :=
 GA.ln k (Z.bx i hb) (RV hq) H h hs hv
theorem GA.Lh (q i k:Nat) (Z:St κ ρ Φ Ψ Θ w) (H:GA P (rS ρ) n m L ops (q::l) (Ag e (Ad ops q).dst (((haC Ψ i)[k]?).getD undef)) w)
 (hf:Ψ[i]? = some ⟨fzG Ψ i,fzL Ψ i,.has (haB Ψ i) (haO Ψ i) (haC Ψ i)⟩:=by kernel_rfl) (hl:fzL Ψ i=roF ρ:=by kernel_rfl)
 (h:BR n m ops l q e=some (ldT (BR n m ops l q e),⟨haB Ψ i,haO Ψ i+k,none⟩):=by kernel_rfl)
 (hs:Bp P (ldT (BR n m ops l q e))=true:=by kernel_rfl) (hv:(haC Ψ i)[k]? = some (((haC Ψ i)[k]?).getD undef):=by kernel_rfl):GA P (rS ρ) n m L ops l e w :=
 GA.lh q k (Z.ha i hf).1 (Z.Xy hl (Z.ha i hf).2.1) H h hs hv
theorem GA.Lg (q i k:Nat) (Z:St κ ρ Φ Ψ Θ w) (H:GA P (rS ρ) n m L ops (q::l) (lgG P (haC Ψ i) k n m ops l q e) w)
 (hf:Ψ[i]? = some ⟨fzG Ψ i,fzL Ψ i,.has (haB Ψ i) (haO Ψ i) (haC Ψ i)⟩:=by kernel_rfl) (hl:fzL Ψ i=roF ρ:=by kernel_rfl)
 (h:BR n m ops l q e=some (ldT (BR n m ops l q e),⟨haB Ψ i,haO Ψ i+k,none⟩):=by kernel_rfl)
 (hs:F3 P (ldT (BR n m ops l q e)) (ldH P (haC Ψ i) k (BR n m ops l q e)).length=true:=by kernel_rfl)
 (hv:((haC Ψ i).drop k).take (ldH P (haC Ψ i) k (BR n m ops l q e)).length=ldH P (haC Ψ i) k (BR n m ops l q e):=by kernel_rfl):GA P (rS ρ) n m L ops l e w :=
 GA.lg q k (Z.ha i hf).1 (Z.Xy hl (Z.ha i hf).2.1) H h hs hv
theorem GA.Lt (q i k:Nat) (Z:St κ none Φ Ψ Θ w) (H:GA P nil n m L ops (q::l) (Ag e (Ad ops q).dst (((thE Θ i).2.2[k]?).getD undef)) w)
 (hf:Θ[i]? = some (thE Θ i):=by kernel_rfl)
 (h:BR n m ops l q e=some (ldT (BR n m ops l q e),⟨(thE Θ i).1,(thE Θ i).2.1+k,none⟩):=by kernel_rfl)
 (hs:Bp P (ldT (BR n m ops l q e))=true:=by kernel_rfl) (hv:(thE Θ i).2.2[k]? = some (((thE Θ i).2.2[k]?).getD undef):=by kernel_rfl):GA P nil n m L ops l e w :=
 GA.lh q k (Z.thH i hf) (fun h=>h) H h hs hv
end
end Go.Proofs.YtcginoabkicdiaaGreat
namespace Go.Proofs.YtcginoabkicdiaaGreat
def gle (g g':Nat):Bool:=Nat.beq g g' || (Nat.beq g 0&&Nat.beq g' 1) || Nat.ble 2 g'
theorem Cx.le {κ:Cx}{g g' b:Nat}(h:gle g g'=true) (hb:κ.g g b):κ.g g' b:=by
 simp only [gle,Bool.or_eq_true,AW] at h
 rcases h with (h | h) | h
 ·rw [← Nat.eq_of_beq_eq_true h]; exact hb
 ·have h1:=Nat.eq_of_beq_eq_true h.1
  have h2:=Nat.eq_of_beq_eq_true h.2
  subst h1; subst h2
  exact .inr hb
 ·have:=Nat.le_of_ble_eq_true h
  match g',this with
  | _+2,_=>trivial
theorem Cx.nw {κ:Cx}{g b:Nat}(h:κ.w.heap.size≤b):κ.g g b:=match g with | 0=>h | 1=>.inr h | _+2=>trivial
theorem Cx.dg {κ:Cx}{g b:Nat}{l:Option (Nat × List Nat)}(h:κ.d g l b):κ.g g b:=by
 cases l with
 | none=>exact h
 | some s=>exact h.1
def slF (Φ:List Ob) (i:Nat):Fz:=match Φ[i]? with | some (@Ob.own _ _ g b _ c xs)=>⟨g,none,.rep (some ⟨b,0,none⟩) c xs⟩ | _=>⟨0,none,.has 0 0 []⟩
def Vh (Φ:List Ob) (i:Nat):Bool:=match Φ[i]? with | some (@Ob.own _ _ _ _ _ _ _)=>true | _=>false
def PC {α:Type}[Rep α] [Shp α] (Ψ:List Fz):List α→List (List Nat)→List Value
 | [],_=>[]
 | x::xs,[]=>Shp.cells x []++PC Ψ xs []
 | x::xs,is::iss=>Shp.cells x (acs Ψ is)++PC Ψ xs iss
def QV {α:Type}[Rep α] [Shp α] (Ψ:List Fz) (g:Nat):List α→List (List Nat)→Prop
 | [],_=>True
 | x::xs,[]=>([]:List (Option Fr))=(Shp.facts x []).map some∧QV Ψ g xs []
 | x::xs,is::iss=>(frs Ψ is=(Shp.facts x (acs Ψ is)).map some∧(is.all fun i=>gle (fzG Ψ i) g)=true)∧QV Ψ g xs iss
section
variable {P:Program} {S:Nat→Prop} {n m:Nat} {K L:Env→World→Prop} {ops:Array Oper} {j:Nat} {l:List Nat} {e:Env}
variable {κ:Cx} {ρ:Option Rg} {Φ Φ':List Ob} {Ψ Ψ':List Fz} {Θ:List (Nat × Nat × List Value)} {w w':World} {α:Type} [Rep α] {xs ys:List α} {x y:α} {o o':Ob} {g i r:Nat}
theorem St.dr (Z:St κ ρ Φ Ψ Θ w) (i:Nat):St κ ρ (Φ.eraseIdx i) Ψ Θ w:=Z.less (List.eraseIdx_sublist _ _) (fun _ h=>h) (fun _ h=>h)
theorem Jn {l:List Nat}(h:l.Nodup){i x:Nat}(hi:l[i]? = some x):x∉l.eraseIdx i:=fun hm=>by
 obtain ⟨k,hk⟩:=List.mem_iff_getElem?.1 hm
 rw [List.getElem?_eraseIdx] at hk
 split at hk
 ·exact HB h hi hk AB rfl
 ·exact HB h hi hk AB rfl
theorem NX:bl (Φ.eraseIdx i)=(bl Φ).eraseIdx i:=by
 apply List.ext_getElem?
 intro k
 simp only [bl,List.getElem?_map,List.getElem?_eraseIdx]
 split <;> simp
theorem RW (h:Vh Φ i=true):∃ (α:Type) (_:Rep α) (g b t c:Nat) (xs:List α),Φ[i]? = some (.own g b t c xs):=by
 unfold Vh at h
 split at h
 ·rename_i α I g b t c xs hx; exact ⟨α,I,g,b,t,c,xs,hx⟩
 ·cases h
theorem St.sl (Z:St κ ρ Φ Ψ Θ w) (i:Nat) (h:Vh Φ i=true:=by kernel_rfl):St κ ρ (Φ.eraseIdx i) (slF Φ i::Ψ) Θ w:=by
 obtain ⟨α,I,g,b,t,c,xs,hx⟩:=RW h
 have ho:=Z.ob _ (AV hx)
 refine (Z.dr i).add (Ψ':=[slF Φ i]) fun f hf=>?_
 simp only [List.mem_singleton] at hf
 subst hf
 have hn:b∉bl (Φ.eraseIdx i):=by rw [NX]; exact Jn Z.nd (D2 hx)
 have hb:∀ b∈bl (Φ.eraseIdx i),b∈bl Φ:=fun b h=>((List.eraseIdx_sublist _ _).map Ob.b).subset h
 unfold slF
 rw [hx]
 exact ho.1.QQ (fun k _ hk=>⟨hk.1,fun hm=>hk.2 (hb k hm)⟩) ⟨Cx.nw ho.2,hn⟩
theorem OP (hi:Φ[i]? = some o) (hb:o'.b=o.b):bl (Φ.set i o')=bl Φ:=by
 rw [Jm,hb]
 apply List.ext_getElem?
 intro k
 rw [List.getElem?_set]
 split
 ·rename_i h; subst h
  have:=D2 hi
  rw [this]
  split
  ·rfl
  ·rename_i h2; exact absurd (List.getElem?_eq_some_iff.1 this).1 h2
 ·rfl
theorem St.cnv (Z:St κ ρ Φ Ψ Θ w) (hi:Φ[i]? = some o) (hb:o'.b=o.b) (ho:o'.ok κ (bl Φ) w):St κ ρ (Φ.set i o') Ψ Θ w:=by
 have e:=OP hi hb
 refine ⟨by rw [e]; exact Z.nd,by rw [e]; exact Z.lt,by rw [e]; exact Z.cv,fun x hx=>?_,fun f hf=>by rw [e]; exact Z.fz f hf,Z.th,Z.ch,by have:=Z.rg; unfold rOk at *; rw [e]; exact this⟩
 rw [e]
 rcases Hs hx with rfl | ⟨j,_,hj⟩
 ·exact ho
 ·exact Z.ob x (AV hj)
theorem St.ro [Shp α] (Z:St κ ρ Φ Ψ Θ w){is:List Nat}(hf:frs Ψ is=(Shp.facts y (acs Ψ is)).map some) (hg:(is.all fun i=>gle (fzG Ψ i) g)=true) :
 Rep.rep w (nin (κ.g g) (bl Φ)) y (Shp.cells y (acs Ψ is)):=by
 refine Shp.un _ fun f hfm=>?_
 have h1:some f∈frs Ψ is:=by rw [hf]; exact List.mem_map.2 ⟨f,hfm,rfl⟩
 obtain ⟨k,hk,he⟩:=List.mem_map.1 h1
 have hgk:=List.all_eq_true.1 hg k hk
 split at he
 ·rename_i f' hf'
  cases he
  refine Fr.fr (Z.fz f' (AV hf')) (fun b _ hb=>⟨⟨?_,hb.2⟩,rfl⟩) (Nat.le_refl _)
  have:fzG Ψ k=f'.g:=by unfold fzG; rw [hf']
  rw [this] at hgk
  exact Cx.le hgk (Cx.dg hb.1)
 ·cases he
theorem TO {r:Nat}{cs:List Value}{G:Nat→Prop}{M:List Nat}(h:Rep.rep w (nin G M) y cs) (hr:r∈M):Rep.rep w (fun b=>nin G M b∧b≠r) y cs :=
 Rep.frame h fun _ _ hb=>⟨⟨hb,fun e=>hb.2 (e▸hr)⟩,rfl⟩
theorem St.ZG [Shp α] {r:Nat}(Z:St κ ρ Φ Ψ Θ w) (hr:r∈bl Φ):∀ (xs:List α) (iss:List (List Nat)),QV Ψ g xs iss→Kn w (fun b=>nin (κ.g g) (bl Φ) b∧b≠r) xs (PC Ψ xs iss)
 | [],iss,_=>by simp [Kn,PC]
 | x :: xs, iss, h => by
   have key:∀ is iss',frs Ψ is=(Shp.facts x (acs Ψ is)).map some→(is.all fun i=>gle (fzG Ψ i) g)=true→QV Ψ g xs iss' →
    Kn w (fun b=>nin (κ.g g) (bl Φ) b∧b≠r) (x::xs) (Shp.cells x (acs Ψ is)++PC Ψ xs iss'):=fun is iss' h1 h2 h3=>by
    have hx:=TO (Z.ro h1 h2) hr
    have hl:=Rep.len hx
    refine ⟨?_,?_⟩
    ·rw [← hl,List.take_left]; exact hx
    ·rw [← hl,List.drop_left]; exact Z.ZG hr xs iss' h3
   match iss,h with
   | [],h=>exact key [] [] h.1 rfl h.2
   | is::iss,h=>exact key is iss h.1.1 h.1.2 h.2
def nbT (P:Program) (n:Nat) (ops:Array Oper) (j:Nat) (e:Env):Nat:=match Bl P n ops j e 0 with | some (_,t,_)=>t | none=>0
def nbC (P:Program) (n:Nat) (ops:Array Oper) (j:Nat) (e:Env):List Value:=match Bl P n ops j e 0 with | some (_,_,cs)=>cs | none=>[]
theorem St.pb (Z:St κ ρ Φ Ψ Θ w){b t:Nat}{cs:List Value}(hb:b=w.heap.size) (hx:Ext w w') (h:Box w' b t cs):St κ ρ (.box b t cs::Φ) Ψ Θ w':=Z.push hx (Nat.le_of_eq hb.symm) h.lt h
theorem St.pl [Shp α] (Z:St κ ρ Φ Ψ Θ w){b t:Nat}{cs:List Value}(hb:b=w.heap.size) (hx:Ext w w') (h:Box w' b t cs) (g:Nat) (xs:List α) (iss:List (List Nat)) (hc:cs=PC Ψ xs iss) (hk:QV Ψ g xs iss)
 (hm:Nat.ble xs.length 1000=true):St κ ρ (.own g b t xs.length xs::Φ) Ψ Θ w':=by
 have Z1:=Z.pb hb hx h
 refine St.cnv (i:=0) (o:=.box b t cs) (o':=.own g b t xs.length xs) Z1 rfl rfl ⟨Own.lit h rfl ?_ ?_,by have:=Z.ch.size; omega⟩
 ·have:=Nat.le_of_ble_eq_true hm; unfold maxLen; omega
 ·rw [hc]; exact Z1.ZG AI xs iss hk
theorem RG.Np (Z:St κ ρ Φ Ψ Θ w) (H:∀ b w',St κ ρ (.box b (nbT P n ops j e) (nbC P n ops j e)::Φ) Ψ Θ w'→RG P n K ops (j+1) (Ag e (Ad ops j).dst (.pointer (some ⟨b,0,none⟩))) w')
 (h:∀ b,Bl P n ops j e b=some (.pointer (some ⟨b,0,none⟩),nbT P n ops j e,nbC P n ops j e):=by intro _; kernel_rfl):RG P n K ops j e w :=
 RG.new h fun b w' h1 h2 h3 _=>H b w' (Z.pb h1 h2 h3)
theorem RG.Nb (q:Nat) (Z:St κ ρ Φ Ψ Θ w) (H:∀ b w',St κ ρ (.box b (nbT P n ops j e) (nbC P n ops j e)::Φ) Ψ Θ w'→RG P n K ops (j+1) (Ag e (Ad ops j).dst (.slice (some ⟨b,0,none⟩) q q)) w')
 (h:∀ b,Bl P n ops j e b=some (.slice (some ⟨b,0,none⟩) q q,nbT P n ops j e,nbC P n ops j e):=by intro _; kernel_rfl):RG P n K ops j e w :=
 RG.new h fun b w' h1 h2 h3 _=>H b w' (Z.pb h1 h2 h3)
theorem RG.Nl [Shp α] (g:Nat) (xs:List α) (iss:List (List Nat)) (Z:St κ ρ Φ Ψ Θ w) (H:∀ b w',St κ ρ (.own g b (nbT P n ops j e) xs.length xs::Φ) Ψ Θ w'→RG P n K ops (j+1) (Ag e (Ad ops j).dst (.slice (some ⟨b,0,none⟩) xs.length xs.length)) w')
 (h:∀ b,Bl P n ops j e b=some (.slice (some ⟨b,0,none⟩) xs.length xs.length,nbT P n ops j e,PC Ψ xs iss):=by intro _; kernel_rfl) (hk:QV Ψ g xs iss:=by repeat' constructor) (hm:Nat.ble xs.length 1000=true:=by kernel_rfl):RG P n K ops j e w :=
 RG.new h fun b w' h1 h2 h3 _=>H b w' (Z.pl h1 h2 h3 g xs iss rfl hk hm)
theorem RG.N0 (α:Type) [Rep α] [Shp α] (g:Nat) (Z:St κ ρ Φ Ψ Θ w) (H:∀ b w',St κ ρ (.own g b (nbT P n ops j e) 0 ([]:List α)::Φ) Ψ Θ w'→RG P n K ops (j+1) (Ag e (Ad ops j).dst (.slice (some ⟨b,0,none⟩) 0 0)) w')
 (h:∀ b,Bl P n ops j e b=some (.slice (some ⟨b,0,none⟩) 0 0,nbT P n ops j e,[]):=by intro _; kernel_rfl):RG P n K ops j e w :=
 RG.Nl (α:=α) g [] [] Z H h trivial rfl
theorem GE.Np {q:Nat}(Z:St κ ρ Φ Ψ Θ w) (H:∀ b w',St κ ρ (.box b (nbT P n ops q e) (nbC P n ops q e)::Φ) Ψ Θ w'→GA P S n m L ops (q::l) (Ag e (Ad ops q).dst (.pointer (some ⟨b,0,none⟩))) w')
 (h:∀ b,Bl P n ops q e b=some (.pointer (some ⟨b,0,none⟩),nbT P n ops q e,nbC P n ops q e):=by intro _; kernel_rfl):GE P S n m L ops l q e w :=
 GE.new h fun w1 hx b w' h1 h2 h3 _=>H b w' ((Z.e hx).pb h1 h2 h3)
theorem GE.Nb {q:Nat}(k:Nat) (Z:St κ ρ Φ Ψ Θ w) (H:∀ b w',St κ ρ (.box b (nbT P n ops q e) (nbC P n ops q e)::Φ) Ψ Θ w'→GA P S n m L ops (q::l) (Ag e (Ad ops q).dst (.slice (some ⟨b,0,none⟩) k k)) w')
 (h:∀ b,Bl P n ops q e b=some (.slice (some ⟨b,0,none⟩) k k,nbT P n ops q e,nbC P n ops q e):=by intro _; kernel_rfl):GE P S n m L ops l q e w :=
 GE.new h fun w1 hx b w' h1 h2 h3 _=>H b w' ((Z.e hx).pb h1 h2 h3)
theorem GE.Nl [Shp α] {q:Nat}(g:Nat) (xs:List α) (iss:List (List Nat)) (Z:St κ ρ Φ Ψ Θ w) (H:∀ b w',St κ ρ (.own g b (nbT P n ops q e) xs.length xs::Φ) Ψ Θ w'→GA P S n m L ops (q::l) (Ag e (Ad ops q).dst (.slice (some ⟨b,0,none⟩) xs.length xs.length)) w')
 (h:∀ b,Bl P n ops q e b=some (.slice (some ⟨b,0,none⟩) xs.length xs.length,nbT P n ops q e,PC Ψ xs iss):=by intro _; kernel_rfl) (hk:QV Ψ g xs iss:=by repeat' constructor) (hm:Nat.ble xs.length 1000=true:=by kernel_rfl):GE P S n m L ops l q e w :=
 GE.new h fun w1 hx b w' h1 h2 h3 _=>H b w' ((Z.e hx).pl h1 h2 h3 g xs iss rfl hk hm)
theorem GE.N0 {q:Nat}(α:Type) [Rep α] [Shp α] (g:Nat) (Z:St κ ρ Φ Ψ Θ w) (H:∀ b w',St κ ρ (.own g b (nbT P n ops q e) 0 ([]:List α)::Φ) Ψ Θ w'→GA P S n m L ops (q::l) (Ag e (Ad ops q).dst (.slice (some ⟨b,0,none⟩) 0 0)) w')
 (h:∀ b,Bl P n ops q e b=some (.slice (some ⟨b,0,none⟩) 0 0,nbT P n ops q e,[]):=by intro _; kernel_rfl):GE P S n m L ops l q e w :=
 GE.Nl (α:=α) g [] [] Z H h trivial rfl
def stO (o:Option (TypeId × Addr × Value)):Nat:=match o with | some (_,a,_)=>off (some a) | none=>0
def stV (o:Option (TypeId × Addr × Value)):Value:=match o with | some (_,_,v)=>v | none=>undef
def stB (Φ:List Ob) (i:Nat) (o:Option (TypeId × Addr × Value)):List Ob:=Φ.set i (.box (obB Φ i) (bxT Φ i) (Ay (bxC Φ i) (stO o) (stV o).cells.toList))
theorem St.stC (Z:St κ ρ Φ Ψ Θ w) (i:Nat){o:Option (TypeId × Addr × Value)}(hi:Φ[i]? = some (.box (obB Φ i) (bxT Φ i) (bxC Φ i)))
 (hs:(Da P (stT o) (stV o).cells.size&&Nat.ble (stO o+(stV o).cells.size) (bxC Φ i).length&&(stV o).cells.toList.all Cy)=true) :
 ∃ w',(storeVar (stT o) ⟨obB Φ i,stO o,none⟩ (stV o)).run P w=.ok () w'∧St κ ρ (stB Φ i o) Ψ [] w'∧Chg (one (obB Φ i)) w w':=by
 simp only [AW] at hs
 obtain ⟨w',hr,hb',hx,hsz⟩:=(Z.bx i hi).store (P:=P) (t':=stT o) (o:=stO o) (v:=stV o) hs.1.1 (Nat.le_of_ble_eq_true hs.1.2) hs.2
 exact ⟨w',hr,Z.put hi hx (.inl rfl) hb'.lt hb',hx⟩
theorem RG.Ss (i:Nat) (Z:St κ ρ Φ Ψ Θ w) (H:∀ w',St κ ρ (stB Φ i (storeAt n ops j e)) Ψ [] w'→RG P n K ops (j+1) (Ag e (Ad ops j).dst undef) w')
 (hi:Φ[i]? = some (.box (obB Φ i) (bxT Φ i) (bxC Φ i)):=by kernel_rfl)
 (h:storeAt n ops j e=some (stT (storeAt n ops j e),⟨obB Φ i,stO (storeAt n ops j e),none⟩,stV (storeAt n ops j e)):=by kernel_rfl)
 (hs:(Da P (stT (storeAt n ops j e)) (stV (storeAt n ops j e)).cells.size&&Nat.ble (stO (storeAt n ops j e)+(stV (storeAt n ops j e)).cells.size) (bxC Φ i).length&&(stV (storeAt n ops j e)).cells.toList.all Cy)=true:=by kernel_rfl) :
 RG P n K ops j e w :=
 let ⟨w',hr,hz,_⟩:=Z.stC (P:=P) i hi hs
 RG.store h hr (H w' hz)
theorem St.seC [Shp α] (Z:St κ ρ Φ Ψ Θ w) (i q k:Nat){d:Nat}(hx:xs[d]? = some x) (x':α) (is:List Nat){o:Option (TypeId × Addr × Value)}(hi:Φ[i]? = some (.own (owG Φ i) (obB Φ i) (owT Φ i) (owC Φ i) xs))
 (hq:Θ[q]? = some (obB Φ i,0+d * Rep.sz α,(thE Θ q).2.2)) (hl:Nat.beq (thE Θ q).2.2.length (Rep.sz α)=true) (hf:frs Ψ is=(Shp.facts x' (acs Ψ is)).map some) (hg:(is.all fun k=>gle (fzG Ψ k) (owG Φ i))=true)
 (hc:Ay (thE Θ q).2.2 k (stV o).cells.toList=Shp.cells x' (acs Ψ is))
 (hs:(Da P (stT o) (stV o).cells.size&&Nat.ble (k+(stV o).cells.size) (thE Θ q).2.2.length&&(stV o).cells.toList.all Cy)=true) :
 ∃ w',(storeVar (stT o) ⟨obB Φ i,0+d * Rep.sz α+k,none⟩ (stV o)).run P w=.ok () w'∧St κ ρ (Φ.set i (.own (owG Φ i) (obB Φ i) (owT Φ i) (owC Φ i) (xs.set d x'))) Ψ [] w'∧Chg (one (obB Φ i)) w w':=by
 obtain ⟨ho,hs0⟩:=Z.ow i xs hi
 have hh:Has w ⟨obB Φ i,d * Rep.sz α,none⟩ (thE Θ q).2.2:=by
  have:=(Z.th _ (AV hq)).1
  simpa using this
 have hr:=TO (Z.ro hf hg) (Ck hi)
 rw [← hc] at hr
 obtain ⟨w',h1,h2,h3,_⟩:=ho.store (P:=P) hx hh (Nat.eq_of_beq_eq_true hl) hs hr
 rw [Nat.zero_add]
 refine ⟨w',h1,Z.put hi h3 (.inl rfl) h2.lt ⟨?_,hs0⟩,h3⟩
 rw [List.length_set,OP (o':=.own (owG Φ i) (obB Φ i) (owT Φ i) (owC Φ i) (xs.set d x')) hi rfl]
 exact h2
theorem RG.Se [Shp α] (i q k:Nat){d:Nat}(hx:xs[d]? = some x) (x':α) (is:List Nat) (Z:St κ ρ Φ Ψ Θ w) (H:∀ w',St κ ρ (Φ.set i (.own (owG Φ i) (obB Φ i) (owT Φ i) (owC Φ i) (xs.set d x'))) Ψ [] w'→RG P n K ops (j+1) (Ag e (Ad ops j).dst undef) w')
 (hi:Φ[i]? = some (.own (owG Φ i) (obB Φ i) (owT Φ i) (owC Φ i) xs):=by kernel_rfl) (hq:Θ[q]? = some (obB Φ i,0+d * Rep.sz α,(thE Θ q).2.2):=by kernel_rfl)
 (hl:Nat.beq (thE Θ q).2.2.length (Rep.sz α)=true:=by kernel_rfl) (hf:frs Ψ is=(Shp.facts x' (acs Ψ is)).map some:=by kernel_rfl) (hg:(is.all fun k=>gle (fzG Ψ k) (owG Φ i))=true:=by kernel_rfl)
 (hc:Ay (thE Θ q).2.2 k (stV (storeAt n ops j e)).cells.toList=Shp.cells x' (acs Ψ is):=by kernel_rfl)
 (hs:(Da P (stT (storeAt n ops j e)) (stV (storeAt n ops j e)).cells.size&&Nat.ble (k+(stV (storeAt n ops j e)).cells.size) (thE Θ q).2.2.length&&(stV (storeAt n ops j e)).cells.toList.all Cy)=true:=by kernel_rfl)
 (h:storeAt n ops j e=some (stT (storeAt n ops j e),⟨obB Φ i,0+d * Rep.sz α+k,none⟩,stV (storeAt n ops j e)):=by kernel_rfl):RG P n K ops j e w :=
 let ⟨w',hr,hz,_⟩:=Z.seC (P:=P) i q k hx x' is hi hq hl hf hg hc hs
 RG.store h hr (H w' hz)
def roJ (ρ:Option Rg):List Nat:=match ρ with | none=>[] | some ρ=>ρ.O
def isR (ρ:Option Rg):Bool:=match ρ with | none=>false | some _=>true
theorem St.SJ (Z:St κ ρ Φ Ψ Θ w){i:Nat}(hi:Φ[i]? = some o) (js:List Nat) (h:isR ρ=true) (h1:(roJ ρ).map some=js.map (fun j=>(Φ[j]?).map Ob.b)) (h2:js.all (fun j=>!(Nat.beq j i))=true):rS ρ o.b:=by
 have hrg:=Z.rg
 cases ρ with
 | none=>cases h
 | some ρ =>
   refine ⟨fun hm=>?_,hrg.2 _ (Ck hi)⟩
   have:some o.b∈(roJ (some ρ)).map some:=List.mem_map.2 ⟨_,hm,rfl⟩
   rw [h1] at this
   obtain ⟨j,hj,he⟩:=List.mem_map.1 this
   have hne:j≠i:=fun e=>by
    have:=List.all_eq_true.1 h2 j hj
    subst e
    simp at this
   cases hq:Φ[j]? with
   | none=>rw [hq] at he; cases he
   | some q=>rw [hq] at he; exact HB Z.nd (D2 hi) (D2 hq) hne (Option.some.inj he)
theorem Ht {b:Nat}(h:rS ρ b) (hx:Chg (one b) w w'):Chg (rS ρ) w w':=hx.Bj (fun k _ hk=>by cases hk; exact h)
theorem GE.Ss {q:Nat}(i:Nat) (js:List Nat) (Z:St κ ρ Φ Ψ Θ w) (H:∀ w',St κ ρ (stB Φ i (storeAt n ops q e)) Ψ [] w'→GA P (rS ρ) n m L ops (q::l) (Ag e (Ad ops q).dst undef) w')
 (hi:Φ[i]? = some (.box (obB Φ i) (bxT Φ i) (bxC Φ i)):=by kernel_rfl)
 (h:storeAt n ops q e=some (stT (storeAt n ops q e),⟨obB Φ i,stO (storeAt n ops q e),none⟩,stV (storeAt n ops q e)):=by kernel_rfl)
 (hs:(Da P (stT (storeAt n ops q e)) (stV (storeAt n ops q e)).cells.size&&Nat.ble (stO (storeAt n ops q e)+(stV (storeAt n ops q e)).cells.size) (bxC Φ i).length&&(stV (storeAt n ops q e)).cells.toList.all Cy)=true:=by kernel_rfl)
 (h0:isR ρ=true:=by kernel_rfl) (h1:(roJ ρ).map some=js.map (fun j=>(Φ[j]?).map Ob.b):=by kernel_rfl) (h2:js.all (fun j=>!(Nat.beq j i))=true:=by kernel_rfl):GE P (rS ρ) n m L ops l q e w:=fun w1 hx=>by
 obtain ⟨w',hr,hz,hc⟩:=(Z.e hx).stC (P:=P) i hi hs
 rw [Fc h hr]
 exact ⟨Ht (Z.SJ hi js h0 h1 h2) hc,H w' hz⟩
def apT (o:Option (Builtin × List TypeId × TypeId × List Value)):Nat:=match o with | some (_,T::_,_,_)=>T | _=>0
def apY (o:Option (Builtin × List TypeId × TypeId × List Value)):Nat:=match o with | some (_,_,t,_)=>t | _=>0
theorem St.apC (Z:St κ ρ Φ Ψ Θ w) (i:Nat) (xs:List α){T ty:TypeId}{F2:Nat→Prop}{a:Option Addr}{c':Nat}{ys:List α}(hi:Φ[i]? = some (.own (owG Φ i) (obB Φ i) (owT Φ i) (owC Φ i) xs))
 (hn:RepS w F2 a ys.length c' ys) (h2:(∀ b,b< w.heap.size→F2 b→nin (κ.g (owG Φ i)) (bl Φ) b)∨Flat α∧∀ b,F2 b→b≠obB Φ i) (hT:E2 P T (owT Φ i) (Rep.sz α)=true) (hs:xs.length+ys.length≤100000000000) :
 ∃ r2 c2 w', (Builtin.append_ #[T, T] ty #[.slice (some ⟨obB Φ i, 0, none⟩) xs.length (owC Φ i), .slice a ys.length c']).run P w = .ok (.slice (some ⟨r2, 0, none⟩) (xs ++ ys).length c2) w' ∧
   St κ ρ (Φ.set i (.own (owG Φ i) r2 (owT Φ i) c2 (xs++ys))) Ψ [] w'∧Chg (one (obB Φ i)) w w':=by
 obtain ⟨ho,hs0⟩:=Z.ow i xs hi
 have hr:obB Φ i∈bl Φ:=Ck hi
 have key:∃ r' c2 w',(Builtin.append_ #[T,T] ty #[.slice (some ⟨obB Φ i,0,none⟩) xs.length (owC Φ i),.slice a ys.length c']).run P w=.ok (.slice (some ⟨r',0,none⟩) (xs.length+ys.length) c2) w' ∧
  Own w' r' (owT Φ i) (nin (κ.g (owG Φ i)) (bl Φ)) (xs.length+ys.length) c2 (xs++ys)∧(r'=obB Φ i∨r'=w.heap.size)∧Chg (one (obB Φ i)) w w'∧w'.heap.size≤w.heap.size+1:=by
  rcases h2 with h2 | ⟨hf,h2⟩
  ·exact ho.append hT hn (fun b hb hF=>⟨h2 b hb hF,fun e=>(h2 b hb hF).2 (e▸hr)⟩) hs
  ·exact Own.DQ hf ho hT hn h2 hs
 obtain ⟨r2,c2,w',hrun,ho',hor,hx,_⟩:=key
 refine ⟨r2,c2,w',by rw [List.length_append]; exact hrun,Z.put hi hx ?_ ho'.lt ⟨?_,?_⟩,hx⟩
 ·exact hor.imp id (fun e=>Nat.le_of_eq e.symm)
 ·rw [List.length_append,Jm]
  refine ho'.RI (fun b hb hm hne hm2=>?_)
  rcases Hs hm2 with rfl | ⟨j,_,hj⟩
  ·exact hne rfl
  ·exact hm (AV hj)
 ·rcases hor with rfl | rfl
  ·exact hs0
  ·exact Z.ch.size
theorem St.ZH (Z:St κ ρ Φ Ψ Θ w){q:Nat}(hq:Φ[q]? = some o) (ps:List Nat) (hL:κ.L.map some=ps.map (fun j=>(Φ[j]?).map Ob.b)) (hp:ps.all (fun j=>!(Nat.beq j q))=true):κ.w.heap.size≤o.b:=by
 rcases Z.cv _ (Ck hq) with h | h
 ·have:some o.b∈κ.L.map some:=List.mem_map.2 ⟨_,h,rfl⟩
  rw [hL] at this
  obtain ⟨j,hj,he⟩:=List.mem_map.1 this
  have hne:j≠q:=fun e=>by
   have:=List.all_eq_true.1 hp j hj
   subst e
   simp at this
  cases hk:Φ[j]? with
  | none=>rw [hk] at he; cases he
  | some p=>rw [hk] at he; exact absurd (Option.some.inj he) (HB Z.nd (D2 hq) (D2 hk) hne)
 ·exact h
theorem St.ap1 [Shp α] (Z:St κ ρ Φ Ψ Θ w) (i q:Nat) (xs:List α) (y:α) (is:List Nat){T ty:TypeId}(ps:List Nat)
 (hi:(Φ.eraseIdx q)[i]? = some (.own (owG (Φ.eraseIdx q) i) (obB (Φ.eraseIdx q) i) (owT (Φ.eraseIdx q) i) (owC (Φ.eraseIdx q) i) xs))
 (hq:Φ[q]? = some (.box (obB Φ q) (bxT Φ q) (Shp.cells y (acs Ψ is)))) (hf:frs Ψ is=(Shp.facts y (acs Ψ is)).map some) (hg:(is.all fun k=>gle (fzG Ψ k) (owG (Φ.eraseIdx q) i))=true)
 (hL:κ.L.map some=ps.map (fun j=>(Φ[j]?).map Ob.b)) (hp:ps.all (fun j=>!(Nat.beq j q))=true) (hT:E2 P T (owT (Φ.eraseIdx q) i) (Rep.sz α)=true) (hs:xs.length+1≤100000000000) :
 ∃ r2 c2 w', (Builtin.append_ #[T, T] ty #[.slice (some ⟨obB (Φ.eraseIdx q) i, 0, none⟩) xs.length (owC (Φ.eraseIdx q) i), .slice (some ⟨obB Φ q, 0, none⟩) 1 1]).run P w = .ok (.slice (some ⟨r2, 0, none⟩) (xs ++ [y]).length c2) w' ∧
   St κ ρ ((Φ.eraseIdx q).set i (.own (owG (Φ.eraseIdx q) i) r2 (owT (Φ.eraseIdx q) i) c2 (xs++[y]))) Ψ [] w'∧Chg (one (obB (Φ.eraseIdx q) i)) w w':=by
 have Z1:=Z.dr q
 have hb:Box w (obB Φ q) (bxT Φ q) (Shp.cells y (acs Ψ is)):=Z.ob _ (AV hq)
 have hn:obB Φ q∉bl (Φ.eraseIdx q):=by rw [NX]; exact Jn Z.nd (D2 hq)
 have hnew:κ.w.heap.size≤obB Φ q:=Z.ZH hq ps hL hp
 have hrep:=Z1.ro (g:=owG (Φ.eraseIdx q) i) hf hg
 refine Z1.apC i xs (ys:=[y]) (F2:=nin (κ.g (owG (Φ.eraseIdx q) i)) (bl (Φ.eraseIdx q))) hi ⟨rfl,Nat.le_refl _,by decide,fun _=>rfl,fun _=>⟨Cx.nw hnew,hn⟩,fun k x hx=>?_⟩ (.inl fun _ _ h=>h) hT hs
 cases k with
 | zero =>
   simp only [List.getElem?_cons_zero,Option.some.injEq] at hx
   subst hx
   refine ⟨_,hrep,?_⟩
   simpa [blk,off] using hb.has 0 (Shp.cells y (acs Ψ is)) AD
 | succ k=>simp at hx
theorem RG.Ap [Shp α] (i q:Nat) (xs:List α) (y:α) (is:List Nat) (Z:St κ ρ Φ Ψ Θ w)
 (H:∀ r2 c2 w',St κ ρ ((Φ.eraseIdx q).set i (.own (owG (Φ.eraseIdx q) i) r2 (owT (Φ.eraseIdx q) i) c2 (xs++[y]))) Ψ [] w'→RG P n K ops (j+1) (Ag e (Ad ops j).dst (.slice (some ⟨r2,0,none⟩) (xs++[y]).length c2)) w')
 (hs:xs.length+1≤100000000000:=by first | omega | (simp <;> omega)) (ps:List Nat:=[])
 (hi:(Φ.eraseIdx q)[i]? = some (.own (owG (Φ.eraseIdx q) i) (obB (Φ.eraseIdx q) i) (owT (Φ.eraseIdx q) i) (owC (Φ.eraseIdx q) i) xs):=by kernel_rfl)
 (hq:Φ[q]? = some (.box (obB Φ q) (bxT Φ q) (Shp.cells y (acs Ψ is))):=by kernel_rfl) (hf:frs Ψ is=(Shp.facts y (acs Ψ is)).map some:=by kernel_rfl) (hg:(is.all fun k=>gle (fzG Ψ k) (owG (Φ.eraseIdx q) i))=true:=by kernel_rfl)
 (hL:κ.L.map some=ps.map (fun j=>(Φ[j]?).map Ob.b):=by kernel_rfl) (hp:ps.all (fun j=>!(Nat.beq j q))=true:=by kernel_rfl)
 (h:Bk n ops j e=some (.append,[apT (Bk n ops j e),apT (Bk n ops j e)],apY (Bk n ops j e),[.slice (some ⟨obB (Φ.eraseIdx q) i,0,none⟩) xs.length (owC (Φ.eraseIdx q) i),.slice (some ⟨obB Φ q,0,none⟩) 1 1]):=by kernel_rfl)
 (hT:E2 P (apT (Bk n ops j e)) (owT (Φ.eraseIdx q) i) (Rep.sz α)=true:=by kernel_rfl):RG P n K ops j e w :=
 let ⟨r2,c2,w',hr,hz,_⟩:=Z.ap1 (P:=P) i q xs y is ps hi hq hf hg hL hp hT hs
 RG.append h hr (H r2 c2 w' hz)
theorem GE.Ap [Shp α] {k:Nat}(i q:Nat) (xs:List α) (y:α) (is js:List Nat) (Z:St κ ρ Φ Ψ Θ w)
 (H:∀ r2 c2 w',St κ ρ ((Φ.eraseIdx q).set i (.own (owG (Φ.eraseIdx q) i) r2 (owT (Φ.eraseIdx q) i) c2 (xs++[y]))) Ψ [] w'→GA P (rS ρ) n m L ops (k::l) (Ag e (Ad ops k).dst (.slice (some ⟨r2,0,none⟩) (xs++[y]).length c2)) w')
 (hs:xs.length+1≤100000000000:=by first | omega | (simp <;> omega)) (ps:List Nat:=[])
 (hi:(Φ.eraseIdx q)[i]? = some (.own (owG (Φ.eraseIdx q) i) (obB (Φ.eraseIdx q) i) (owT (Φ.eraseIdx q) i) (owC (Φ.eraseIdx q) i) xs):=by kernel_rfl)
 (hq:Φ[q]? = some (.box (obB Φ q) (bxT Φ q) (Shp.cells y (acs Ψ is))):=by kernel_rfl) (hf:frs Ψ is=(Shp.facts y (acs Ψ is)).map some:=by kernel_rfl) (hg:(is.all fun k=>gle (fzG Ψ k) (owG (Φ.eraseIdx q) i))=true:=by kernel_rfl)
 (hL:κ.L.map some=ps.map (fun j=>(Φ[j]?).map Ob.b):=by kernel_rfl) (hp:ps.all (fun j=>!(Nat.beq j q))=true:=by kernel_rfl)
 (h:Bk n ops k e=some (.append,[apT (Bk n ops k e),apT (Bk n ops k e)],apY (Bk n ops k e),[.slice (some ⟨obB (Φ.eraseIdx q) i,0,none⟩) xs.length (owC (Φ.eraseIdx q) i),.slice (some ⟨obB Φ q,0,none⟩) 1 1]):=by kernel_rfl)
 (hT:E2 P (apT (Bk n ops k e)) (owT (Φ.eraseIdx q) i) (Rep.sz α)=true:=by kernel_rfl)
 (h0:isR ρ=true:=by kernel_rfl) (h1:(roJ ρ).map some=js.map (fun j=>((Φ.eraseIdx q)[j]?).map Ob.b):=by kernel_rfl) (h2:js.all (fun j=>!(Nat.beq j i))=true:=by kernel_rfl):GE P (rS ρ) n m L ops l k e w:=fun w1 hx=>by
 obtain ⟨r2,c2,w',hr,hz,hc⟩:=(Z.e hx).ap1 (P:=P) (ty:=apY (Bk n ops k e)) i q xs y is ps hi hq hf hg hL hp hT hs
 rw [LF h hr]
 exact ⟨Ht ((Z.dr q).SJ hi js h0 h1 h2) hc,H r2 c2 w' hz⟩
theorem St.apN (Z:St κ ρ Φ Ψ Θ w) (i q:Nat) (xs ys:List α){T ty:TypeId}(hi:Φ[i]? = some (.own (owG Φ i) (obB Φ i) (owT Φ i) (owC Φ i) xs))
 (hq:Ψ[q]? = some ⟨fzG Ψ q,fzL Ψ q,.rep (fzA Ψ q) (fzC Ψ q) ys⟩) (hf:gle (fzG Ψ q) (owG Φ i)=true∨Flat α) (hT:E2 P T (owT Φ i) (Rep.sz α)=true) (hs:xs.length+ys.length≤100000000000) :
 ∃ r2 c2 w', (Builtin.append_ #[T, T] ty #[.slice (some ⟨obB Φ i, 0, none⟩) xs.length (owC Φ i), .slice (fzA Ψ q) ys.length (fzC Ψ q)]).run P w = .ok (.slice (some ⟨r2, 0, none⟩) (xs ++ ys).length c2) w' ∧
   St κ ρ (Φ.set i (.own (owG Φ i) r2 (owT Φ i) c2 (xs++ys))) Ψ [] w'∧Chg (one (obB Φ i)) w w' :=
 Z.apC i xs hi (Z.f q ys hq) (hf.imp (fun h _ _ hb=>⟨Cx.le h (Cx.dg hb.1),hb.2⟩) (fun h=>⟨h,fun _ hb e=>hb.2 (e▸Ck hi)⟩)) hT hs
theorem RG.An (i q:Nat) (xs ys:List α) (Z:St κ ρ Φ Ψ Θ w)
 (H:∀ r2 c2 w',St κ ρ (Φ.set i (.own (owG Φ i) r2 (owT Φ i) c2 (xs++ys))) Ψ [] w'→RG P n K ops (j+1) (Ag e (Ad ops j).dst (.slice (some ⟨r2,0,none⟩) (xs++ys).length c2)) w')
 (hs:xs.length+ys.length≤100000000000:=by first | omega | (simp <;> omega))
 (hf:gle (fzG Ψ q) (owG Φ i)=true∨Flat α:=by exact .inl AA)
 (hi:Φ[i]? = some (.own (owG Φ i) (obB Φ i) (owT Φ i) (owC Φ i) xs):=by kernel_rfl) (hq:Ψ[q]? = some ⟨fzG Ψ q,fzL Ψ q,.rep (fzA Ψ q) (fzC Ψ q) ys⟩:=by kernel_rfl)
 (h:Bk n ops j e=some (.append,[apT (Bk n ops j e),apT (Bk n ops j e)],apY (Bk n ops j e),[.slice (some ⟨obB Φ i,0,none⟩) xs.length (owC Φ i),.slice (fzA Ψ q) ys.length (fzC Ψ q)]):=by kernel_rfl)
 (hT:E2 P (apT (Bk n ops j e)) (owT Φ i) (Rep.sz α)=true:=by kernel_rfl):RG P n K ops j e w :=
 let ⟨r2,c2,w',hr,hz,_⟩:=Z.apN (P:=P) i q xs ys hi hq hf hT hs
 RG.append h hr (H r2 c2 w' hz)
theorem GE.An {k:Nat}(i q:Nat) (xs ys:List α) (js:List Nat) (Z:St κ ρ Φ Ψ Θ w)
 (H:∀ r2 c2 w',St κ ρ (Φ.set i (.own (owG Φ i) r2 (owT Φ i) c2 (xs++ys))) Ψ [] w'→GA P (rS ρ) n m L ops (k::l) (Ag e (Ad ops k).dst (.slice (some ⟨r2,0,none⟩) (xs++ys).length c2)) w')
 (hs:xs.length+ys.length≤100000000000:=by first | omega | (simp <;> omega))
 (hf:gle (fzG Ψ q) (owG Φ i)=true∨Flat α:=by exact .inl AA)
 (hi:Φ[i]? = some (.own (owG Φ i) (obB Φ i) (owT Φ i) (owC Φ i) xs):=by kernel_rfl) (hq:Ψ[q]? = some ⟨fzG Ψ q,fzL Ψ q,.rep (fzA Ψ q) (fzC Ψ q) ys⟩:=by kernel_rfl)
 (h:Bk n ops k e=some (.append,[apT (Bk n ops k e),apT (Bk n ops k e)],apY (Bk n ops k e),[.slice (some ⟨obB Φ i,0,none⟩) xs.length (owC Φ i),.slice (fzA Ψ q) ys.length (fzC Ψ q)]):=by kernel_rfl)
 (hT:E2 P (apT (Bk n ops k e)) (owT Φ i) (Rep.sz α)=true:=by kernel_rfl)
 (h0:isR ρ=true:=by kernel_rfl) (h1:(roJ ρ).map some=js.map (fun j=>(Φ[j]?).map Ob.b):=by kernel_rfl) (h2:js.all (fun j=>!(Nat.beq j i))=true:=by kernel_rfl):GE P (rS ρ) n m L ops l k e w:=fun w1 hx=>by
 obtain ⟨r2,c2,w',hr,hz,hc⟩:=(Z.e hx).apN (P:=P) (ty:=apY (Bk n ops k e)) i q xs ys hi hq hf hT hs
 rw [LF h hr]
 exact ⟨Ht (Z.SJ hi js h0 h1 h2) hc,H r2 c2 w' hz⟩
end
end Go.Proofs.YtcginoabkicdiaaGreat
namespace Go.Proofs.YtcginoabkicdiaaGreat
class Dm (κ:Cx) (M:List Nat) (w:World) (G:Nat→Prop) (g:outParam Nat):Prop where
 sub:κ.w.heap.size≤w.heap.size→(∀ b∈M,b< w.heap.size)→∀ b,G b→nin (κ.g g) M b
instance {κ:Cx}{M:List Nat}{w:World}:Dm κ M w (ge w.heap.size) 0:=⟨fun h1 h2 b hb=>⟨Nat.le_trans h1 hb,fun hm=>Nat.lt_irrefl _ (Nat.lt_of_lt_of_le (h2 b hm) hb)⟩⟩
instance {κ:Cx}{M:List Nat}{w:World}{g:Nat}:Dm κ M w (fo (nin (κ.g g) M) w.heap.size) g:=⟨fun h1 h2 b hb=>hb.elim id fun hb =>
 ⟨Cx.nw (Nat.le_trans h1 hb),fun hm=>Nat.lt_irrefl _ (Nat.lt_of_lt_of_le (h2 b hm) hb)⟩⟩
section
variable {P:Program} {S:Nat→Prop} {n m:Nat} {K L:Env→World→Prop} {ops:Array Oper} {j:Nat} {l:List Nat} {e:Env}
variable {κ:Cx} {ρ:Option Rg} {Φ Φ':List Ob} {Ψ Ψ':List Fz} {Θ Θ':List (Nat × Nat × List Value)} {w w':World} {α:Type} [Rep α] {xs ys:List α} {x y:α} {o o':Ob} {g i r:Nat}
theorem St.mg (Z:St κ ρ Φ Ψ Θ w) (g i:Nat) (h:Ψ[i]? = some ⟨fzG Ψ i,fzL Ψ i,.rep (fzA Ψ i) (fzC Ψ i) xs⟩:=by kernel_rfl) (hg:gle (fzG Ψ i) g=true:=by kernel_rfl):RepS w (nin (κ.g g) (bl Φ)) (fzA Ψ i) xs.length (fzC Ψ i) xs :=
 (Z.f i xs h).Bj fun _ _ hb=>⟨Cx.le hg (Cx.dg hb.1),hb.2⟩
theorem St.av (Z:St κ ρ Φ Ψ Θ w){G:Nat→Prop}[d:Dm κ (bl Φ) w G g] (hx:Ext w w') (fs:List Fr) (h:∀ f∈fs,f.ok w' G):St κ ρ Φ (tg g none fs++Ψ) Θ w' :=
 (Z.e hx).add fun f hf=>by
  simp only [tg,List.mem_map] at hf
  obtain ⟨q,hq,rfl⟩:=hf
  exact Fr.fr (h q hq) (fun b _ hb=>⟨d.sub Z.ch.size Z.lt b hb,rfl⟩) (Nat.le_refl _)
theorem St.vL (Z:St κ ρ Φ Ψ Θ w){G:Nat→Prop}[Dm κ (bl Φ) w G g] {v:Value}(h:VL G w' ys v) (hx:Ext w w'){Q:Value→Prop}(H:∀ a c,St κ ρ Φ (⟨g,none,.rep a c ys⟩ :: Ψ) Θ w'→Q (.slice a ys.length c)):Q v:=by
 obtain ⟨a,c,rfl,h⟩:=h
 exact H a c (Z.av hx [.rep a c ys] fun f hf=>by cases List.mem_singleton.1 hf; exact h)
theorem St.vS [Shp α] (Z:St κ ρ Φ Ψ Θ w){G:Nat→Prop}[Dm κ (bl Φ) w G g] {v:Value}(h:VS G w' y v) (hx:Ext w w'){Q:Value→Prop}
 (H:Fa (Shp.k α) fun l=>St κ ρ Φ (tg g none (Shp.facts y l)++Ψ) Θ w'→Q (.agg (Shp.cells y l).toArray)):Q v:=by
 obtain ⟨cs,rfl,h⟩:=h
 obtain ⟨l,hl,rfl,h3⟩:=Shp.of h
 exact Fe _ H hl (Z.av hx _ h3)
theorem St.vO (Z:St κ ρ Φ Ψ Θ w) (g:Nat){t:Nat}{v:Value}(h:VO t w.heap.size w' ys v) (hx:Ext w w'){Q:Value→Prop}(H:∀ r c,St κ ρ (.own g r t c ys::Φ) Ψ Θ w'→Q (.slice (some ⟨r,0,none⟩) ys.length c)):Q v:=by
 obtain ⟨r,n,c,rfl,h,hr⟩:=h
 have hl:=h.len
 subst hl
 exact H r c (Z.push (o:=.own g r t c ys) hx hr h.lt ⟨(h.take Z.lt Z.ch.size).Bj fun _ _ hb=>⟨Cx.nw hb.1,hb.2⟩,Nat.le_trans Z.ch.size hr⟩)
theorem St.nl (Z:St κ ρ Φ Ψ Θ w) (α:Type) [Rep α]:St κ ρ Φ (⟨0,none,.rep none 0 ([]:List α)⟩ :: Ψ) Θ w :=
 Z.add (Ψ':=[_]) fun f hf=>by cases List.mem_singleton.1 hf; exact RepS.Bv _ _ none 0 AE
theorem St.bc (Z:St κ ρ Φ Ψ Θ w) (i:Nat){t:TypeId}{cs:List Value}(h:Φ[i]? = some (.box (obB Φ i) t cs):=by kernel_rfl):Box w (obB Φ i) t cs:=Z.ob _ (AV h)
theorem Ed {os:List Ob}:bl (os++Φ)=bl os++bl Φ:=List.map_append
theorem St.so (Z:St κ ρ Φ Ψ Θ w){G:Nat→Prop}[d:Dm κ (bl Φ) w G g] (hx:Ext w w') (os:List Ob) (fs:List Fr) (hn:(bl os).Nodup) (ho:∀ o∈os,∃ (α:Type) (_:Rep α) (t c:Nat) (xs:List α),o=.own g o.b t c xs∧Own w' o.b t (nin G (bl os)) xs.length c xs∧w.heap.size≤o.b)
 (hf:∀ f∈fs,f.ok w' (nin G (bl os))):St κ ρ (os++Φ) (tg g none fs++Ψ) Θ w':=by
 have hge:∀ b∈bl os,w.heap.size≤b∧b< w'.heap.size:=fun b hb=>by
  obtain ⟨o,h1,rfl⟩:=List.mem_map.1 hb
  obtain ⟨α,I,t,c,xs,_,h2,h3⟩:=ho o h1
  exact ⟨h3,h2.lt⟩
 have hm:Mv (bl Φ) (bl (os++Φ)) w w':=Mv.mk hx (fun k hk hn=>⟨fun h=>by
  rw [Ed] at h
  rcases List.mem_append.1 h with h | h
  ·have:=(hge k h).1; omega
  ·exact hn h,fun h=>h⟩)
 have hD:∀ b,nin G (bl os) b→nin (κ.g g) (bl (os++Φ)) b:=fun b hb=>by
  have h1:=d.sub Z.ch.size Z.lt b hb.1
  refine ⟨h1.1,fun h=>?_⟩
  rw [Ed] at h
  exact (List.mem_append.1 h).elim hb.2 h1.2
 have Z2:=Z.e hx
 refine ⟨?_,fun b hb=>?_,fun b hb=>?_,fun o h=>?_,fun f h=>?_,Z2.th,Z2.ch,?_⟩
 ·rw [Ed]
  exact List.nodup_append.2 ⟨hn,Z.nd,fun a ha b hb e=>by have:=(hge a ha).1; have:=Z.lt b hb; omega⟩
 ·rw [Ed] at hb
  exact (List.mem_append.1 hb).elim (fun h=>(hge b h).2) (Z2.lt b)
 ·rw [Ed] at hb
  exact (List.mem_append.1 hb).elim (fun h=>.inr (Nat.le_trans Z.ch.size (hge b h).1)) (Z2.cv b)
 ·rcases List.mem_append.1 h with h | h
  ·obtain ⟨α,I,t,c,xs,e,h2,h3⟩:=ho o h
   rw [e]
   exact ⟨h2.Bj (fun b _ hb=>hD b hb),Nat.le_trans Z.ch.size h3⟩
  ·exact Ob.me (Z.ob o h) hm hx
 ·rcases List.mem_append.1 h with h | h
  ·obtain ⟨q,hq,rfl⟩:=List.mem_map.1 h
   exact Fr.fr (hf q hq) (fun b _ hb=>⟨hD b hb,rfl⟩) (Nat.le_refl _)
  ·exact Fz.mv (Z.fz f h) hm hx.size
 ·have h1:=Z2.rg
  have h2:=Z.rg
  unfold rOk at *
  split at h1
  ·trivial
  ·refine ⟨h1.1,fun b hb=>?_⟩
   rw [Ed] at hb
   exact (List.mem_append.1 hb).elim (fun h=>.inr (Nat.le_trans h2.1 (hge b h).1)) (h1.2 b)
theorem oN {w':World}{s:Nat}{G:Nat→Prop}{M:List Nat}{os:List Ob}{r t c:Nat}{xs:List α}(h:Own w' r t (nin G M) xs.length c xs) (hs:s≤r) (H:∀ o∈os,∃ (α:Type) (_:Rep α) (t c:Nat) (xs:List α),o=.own g o.b t c xs∧Own w' o.b t (nin G M) xs.length c xs∧s≤o.b) :
 ∀ o∈Ob.own g r t c xs::os,∃ (α:Type) (_:Rep α) (t c:Nat) (xs:List α),o=.own g o.b t c xs∧Own w' o.b t (nin G M) xs.length c xs∧s≤o.b:=fun o ho=>by
 rcases List.mem_cons.1 ho with rfl | ho
 ·exact ⟨_,_,t,c,xs,rfl,h,hs⟩
 ·exact H o ho
theorem o0 {p:Ob→Prop}:∀ o∈([]:List Ob),p o:=fun _ h=>by cases h
theorem St.qr (Z:St κ ρ Φ Ψ Θ w) (js:List Nat) (i:Nat) (xs:List α) (h:xs=ys) (g:Nat:=0) {a:Option Addr} {c:Nat} {M:List Nat} (hM:M.map some=js.map (fun j=>(Φ[j]?).map Ob.b):=by kernel_rfl) (hf:Ψ[i]? = some ⟨fzG Ψ i,fzL Ψ i,.rep a c xs⟩:=by kernel_rfl) (hg:gle (fzG Ψ i) g=true:=by kernel_rfl) :
 RepS w (nin (κ.g g) M) a xs.length c ys:=by
 subst h
 have h0:RepS w (nin (κ.d (fzG Ψ i) (fzL Ψ i)) (bl Φ)) a xs.length c xs:=Z.fz _ (AV hf)
 refine h0.Bj fun b _ hb=>⟨Cx.le hg (Cx.dg hb.1),fun hm=>hb.2 ?_⟩
 have:some b∈M.map some:=List.mem_map.2 ⟨_,hm,rfl⟩
 rw [hM] at this
 obtain ⟨j,_,hj⟩:=List.mem_map.1 this
 cases hq:Φ[j]? with
 | none=>rw [hq] at hj; cases hj
 | some q=>rw [hq] at hj; cases hj; exact Ck hq
theorem St.qo (Z:St κ ρ Φ Ψ Θ w) (js:List Nat) (i:Nat) (xs:List α) (h:xs=ys) (g:Nat:=0) {t r c:Nat} {M:List Nat} (hM:M.map some=js.map (fun j=>(Φ[j]?).map Ob.b):=by kernel_rfl) (hf:Φ[i]? = some (.own (owG Φ i) r t c xs):=by kernel_rfl) (hg:gle (owG Φ i) g=true:=by kernel_rfl) :
 Own w r t (nin (κ.g g) M) xs.length c ys:=by
 subst h
 have ho:Own w r t (nin (κ.g (owG Φ i)) (bl Φ)) xs.length c xs∧κ.w.heap.size≤r:=Z.ob _ (AV hf)
 refine ho.1.Bj fun b _ hb=>⟨Cx.le hg hb.1,fun hm=>hb.2 ?_⟩
 have:some b∈M.map some:=List.mem_map.2 ⟨_,hm,rfl⟩
 rw [hM] at this
 obtain ⟨j,_,hj⟩:=List.mem_map.1 this
 cases hq:Φ[j]? with
 | none=>rw [hq] at hj; cases hj
 | some q=>rw [hq] at hj; cases hj; exact Ck hq
theorem St.qb (Z:St κ ρ Φ Ψ Θ w) (i:Nat){r:Nat}(hf:Vh Φ i=true:=by kernel_rfl) (hr:obB Φ i=r:=by kernel_rfl):κ.w.heap.size≤r:=by
 obtain ⟨α,I,g,b,t,c,xs,hx⟩:=RW hf
 have:=(Z.ob _ (AV hx)).2
 rw [← hr]
 unfold obB
 rw [hx]
 exact this
theorem St.qn (Z:St κ ρ Φ Ψ Θ w) (i j:Nat){a b:Nat}(h:Nat.beq i j=false:=by kernel_rfl) (hi:(Φ[i]?).map Ob.b=some a:=by kernel_rfl) (hj:(Φ[j]?).map Ob.b=some b:=by kernel_rfl):Nb a b:=by
 cases hp:Φ[i]? with
 | none=>rw [hp] at hi; cases hi
 | some p =>
   cases hq:Φ[j]? with
   | none=>rw [hq] at hj; cases hj
   | some q =>
     rw [hp] at hi; rw [hq] at hj
     cases hi; cases hj
     exact ⟨HB Z.nd (D2 hq) (D2 hp) (fun e=>by subst e; simp at h)⟩
theorem nd1 {o:Ob}:(bl [o]).Nodup:=by simp [bl]
theorem nd3 {a b c:Ob}(h:Nb b.b a.b) (h1:Nb c.b a.b) (h2:Nb c.b b.b):(bl [a,b,c]).Nodup:=by have:=h.ne; have:=h1.ne; have:=h2.ne; simp [bl]; omega
theorem St.i1 (F:Nat→Prop){b t:Nat}{cs:List Value}{D:List α}{a:Option Addr}{c:Nat}(hr:Box w b t cs) (hD:RepS w (nin all [b]) a D.length c D):St ⟨F,w,[b]⟩ none [.box b t cs] [⟨2,none,.rep a c D⟩] [] w :=
 ⟨(nd1:(bl [Ob.box b t cs]).Nodup),(fun x h=>by cases List.mem_singleton.1 h; exact hr.lt),(fun x h=>.inl h),(fun o h=>by cases List.mem_singleton.1 h; exact hr),(fun f h=>by cases List.mem_singleton.1 h; exact hD),(fun _ h=>by cases h),Chg.refl _ _,trivial⟩
theorem St.i2 (F:Nat→Prop){b t:Nat}{cs:List Value}(hr:Box w b t cs):St ⟨F,w,[b]⟩ none [.box b t cs] [] [] w :=
 ⟨(nd1:(bl [Ob.box b t cs]).Nodup),(fun x h=>by cases List.mem_singleton.1 h; exact hr.lt),(fun x h=>.inl h),(fun o h=>by cases List.mem_singleton.1 h; exact hr),(fun f h=>by cases h),(fun _ h=>by cases h),Chg.refl _ _,trivial⟩
theorem SK {b:Nat}(h:Chg (ins [b]) w w'):Chg (one b) w w':=h.Bj fun _ _ h=>List.mem_singleton.1 h
theorem St.p1 {F:Nat→Prop}{b:Nat}{o:Ob}{a:Option Addr}{c:Nat}(Z:St ⟨F,w,[b]⟩ none [o] Ψ [] w) (h:RepS w (nin F [b]) a xs.length c xs) (e:o.b=b:=by kernel_rfl):St ⟨F,w,[b]⟩ none [o] (⟨1,none,.rep a c xs⟩ :: Ψ) [] w :=
 Z.add (Ψ':=[⟨1,none,.rep a c xs⟩]) fun f hf=>by
  cases List.mem_singleton.1 hf
  exact RepS.Bj h fun k _ hk=>⟨.inl hk.1,by show k∉[o.b]; rw [e]; exact hk.2⟩
theorem St.rd (Z:St κ ρ Φ Ψ Θ w) (i q:Nat) (h:Ψ[q]? = some ⟨fzG Ψ q,fzL Ψ q,.rep (fzA Ψ q) (fzC Ψ q) xs⟩:=by kernel_rfl) (hi:Φ[i]?.isSome=true:=by kernel_rfl):RepS w (nin all [obB Φ i]) (fzA Ψ q) xs.length (fzC Ψ q) xs :=
 (Z.f q xs h).Bj fun b _ hb=>⟨trivial,fun hm=>by
  obtain ⟨o,ho⟩:=Option.isSome_iff_exists.1 hi
  have:obB Φ i=o.b:=by unfold obB; rw [ho]
  rw [this] at hm
  exact hb.2 (List.mem_singleton.1 hm▸Ck ho)⟩
theorem St.rn (_:St κ ρ Φ Ψ Θ w) (b:Nat):RepS w (nin all [b]) none 0 0 ([]:List α):=RepS.Bv _ _ none 0 AE
theorem St.rx (Z:St κ ρ Φ Ψ Θ w) (i:Nat){t:TypeId}{cs:List Value}(hx:Chg (one (obB Φ i)) w w') (hb:Box w' (obB Φ i) t cs) (hi:Φ[i]? = some (.box (obB Φ i) (bxT Φ i) (bxC Φ i)):=by kernel_rfl):St κ ρ (Φ.set i (.box (obB Φ i) t cs)) Ψ [] w' :=
 Z.put hi hx (.inl rfl) hb.lt hb
theorem St.mc (Z:St κ ρ Φ Ψ Θ w) (i:Nat) (js:List Nat) (hx:Chg (one (obB Φ i)) w w') (hi:Φ[i]? = some (.box (obB Φ i) (bxT Φ i) (bxC Φ i)):=by kernel_rfl)
 (h0:isR ρ=true:=by kernel_rfl) (h1:(roJ ρ).map some=js.map (fun j=>(Φ[j]?).map Ob.b):=by kernel_rfl) (h2:js.all (fun j=>!(Nat.beq j i))=true:=by kernel_rfl):Chg (rS ρ) w w':=Ht (Z.SJ hi js h0 h1 h2) hx
theorem RG.vL {d:Option Nat}(Z:St κ ρ Φ Ψ Θ w){G:Nat→Prop}[Dm κ (bl Φ) w G g] {v:Value}(h:VL G w' ys v) (hx:Ext w w') (H:∀ a c,St κ ρ Φ (⟨g,none,.rep a c ys⟩ :: Ψ) Θ w'→RG P n K ops j (Ag e d (.slice a ys.length c)) w'):RG P n K ops j (Ag e d v) w':=Z.vL (Q:=fun v=>RG P n K ops j (Ag e d v) w') h hx H
theorem RG.vS {d:Option Nat}[Shp α] (Z:St κ ρ Φ Ψ Θ w){G:Nat→Prop}[Dm κ (bl Φ) w G g] {v:Value}(h:VS G w' y v) (hx:Ext w w') (H:Fa (Shp.k α) fun z=>St κ ρ Φ (tg g none (Shp.facts y z)++Ψ) Θ w'→RG P n K ops j (Ag e d (.agg (Shp.cells y z).toArray)) w'):RG P n K ops j (Ag e d v) w':=Z.vS (Q:=fun v=>RG P n K ops j (Ag e d v) w') h hx H
theorem GA.vL {d:Option Nat}(Z:St κ ρ Φ Ψ Θ w){G:Nat→Prop}[Dm κ (bl Φ) w G g] {v:Value}(h:VL G w' ys v) (hx:Ext w w') (H:∀ a c,St κ ρ Φ (⟨g,none,.rep a c ys⟩ :: Ψ) Θ w'→GA P S n m L ops l (Ag e d (.slice a ys.length c)) w'):GA P S n m L ops l (Ag e d v) w':=Z.vL (Q:=fun v=>GA P S n m L ops l (Ag e d v) w') h hx H
theorem GA.vS {d:Option Nat}[Shp α] (Z:St κ ρ Φ Ψ Θ w){G:Nat→Prop}[Dm κ (bl Φ) w G g] {v:Value}(h:VS G w' y v) (hx:Ext w w') (H:Fa (Shp.k α) fun z=>St κ ρ Φ (tg g none (Shp.facts y z)++Ψ) Θ w'→GA P S n m L ops l (Ag e d (.agg (Shp.cells y z).toArray)) w'):GA P S n m L ops l (Ag e d v) w':=Z.vS (Q:=fun v=>GA P S n m L ops l (Ag e d v) w') h hx H
section
variable {f:FuncId} {args:List Value}
theorem RG.C0 {v:Value}(hc:Calls P f args.toArray w (Af fun rv w'=>rv=v∧Ext w w')) (Z:St κ ρ Φ Ψ Θ w) (H:∀ w',St κ ρ Φ Ψ Θ w'→RG P n K ops (j+1) (Ag e (Ad ops j).dst v) w') (h:Bf P n ops j e=some (f,args):=by kernel_rfl):RG P n K ops j e w :=
 RG.cl hc (fun _ w' ⟨h1,h2⟩=>h1▸H w' (Z.e h2)) h
theorem RG.CL {G:Nat→Prop}(hc:Calls P f args.toArray w (Af fun rv w'=>VL G w' ys rv∧Ext w w')) (Z:St κ ρ Φ Ψ Θ w) [Dm κ (bl Φ) w G g]
 (H:∀ a c w',St κ ρ Φ (⟨g,none,.rep a c ys⟩ :: Ψ) Θ w'→RG P n K ops (j+1) (Ag e (Ad ops j).dst (.slice a ys.length c)) w') (h:Bf P n ops j e=some (f,args):=by kernel_rfl):RG P n K ops j e w :=
 RG.cl hc (fun v w' ⟨h1,h2⟩=>Z.vL h1 h2 (Q:=fun v=>RG P n K ops (j+1) (Ag e (Ad ops j).dst v) w') fun a c hz=>H a c w' hz) h
theorem Eo (k:Nat):∀ {p q:List (Option Addr × Nat)→Prop},(∀ l,p l→q l)→Fa k p→Fa k q:=by
 induction k with
 | zero=>exact fun h hp=>h _ hp
 | succ k ih=>exact fun h hp a c=>ih (fun l=>h ((a,c)::l)) (hp a c)
theorem RG.CS [Shp α] {G:Nat→Prop}(hc:Calls P f args.toArray w (Af fun rv w'=>VS G w' y rv∧Ext w w')) (Z:St κ ρ Φ Ψ Θ w) [Dm κ (bl Φ) w G g]
 (H:Fa (Shp.k α) fun l=>∀ w',St κ ρ Φ (tg g none (Shp.facts y l)++Ψ) Θ w'→RG P n K ops (j+1) (Ag e (Ad ops j).dst (.agg (Shp.cells y l).toArray)) w') (h:Bf P n ops j e=some (f,args):=by kernel_rfl):RG P n K ops j e w :=
 RG.cl hc (fun v w' ⟨h1,h2⟩=>Z.vS h1 h2 (Q:=fun v=>RG P n K ops (j+1) (Ag e (Ad ops j).dst v) w') (Eo _ (fun l h=>h w') H)) h
theorem RG.CO (g:Nat){t:Nat}(hc:Calls P f args.toArray w (Af fun rv w'=>VO t w.heap.size w' ys rv∧Ext w w')) (Z:St κ ρ Φ Ψ Θ w)
 (H:∀ r c w',St κ ρ (.own g r t c ys::Φ) Ψ Θ w'→RG P n K ops (j+1) (Ag e (Ad ops j).dst (.slice (some ⟨r,0,none⟩) ys.length c)) w') (h:Bf P n ops j e=some (f,args):=by kernel_rfl):RG P n K ops j e w :=
 RG.cl hc (fun v w' ⟨h1,h2⟩=>Z.vO g h1 h2 (Q:=fun v=>RG P n K ops (j+1) (Ag e (Ad ops j).dst v) w') fun r c hz=>H r c w' hz) h
theorem RG.CT [Shp α] {G:Nat→Prop}{us:List Value}(hc:Calls P f args.toArray w (Af fun rv w'=>(∃ v0,rv=.tuple (v0::us).toArray∧VS G w' y v0)∧Ext w w')) (Z:St κ ρ Φ Ψ Θ w) [Dm κ (bl Φ) w G g]
 (H:Fa (Shp.k α) fun l=>∀ w',St κ ρ Φ (tg g none (Shp.facts y l)++Ψ) Θ w'→RG P n K ops (j+1) (Ag e (Ad ops j).dst (.tuple (.agg (Shp.cells y l).toArray::us).toArray)) w') (h:Bf P n ops j e=some (f,args):=by kernel_rfl):RG P n K ops j e w :=
 RG.cl hc (fun v w' ⟨⟨v0,h0,h1⟩,h2⟩=>h0▸Z.vS h1 h2 (Q:=fun v=>RG P n K ops (j+1) (Ag e (Ad ops j).dst (.tuple (v::us).toArray)) w') (Eo _ (fun l h=>h w') H)) h
theorem GA.C0 (q:Nat){v:Value}(Z:St κ none Φ Ψ Θ w) (hc:∀ w1,St κ none Φ Ψ Θ w1→Calls P f args.toArray w1 (Af fun rv w'=>rv=v∧Ext w1 w')) (H:GA P nil n m L ops (q::l) (Ag e (Ad ops q).dst v) w)
 (h:NP P n m ops l q e=some (f,args):=by kernel_rfl):GA P nil n m L ops l e w:=GA.NQ h (fun w1 hx=>hc w1 (Z.e hx)) H
def Sg (ρ:Option Rg) (Ψ:List Fz) (w:World):Prop:=∀ f∈Ψ,f.l=roF ρ→f.r.ok w all
theorem Sg.a {w:World}(Z:Sg ρ Ψ w) (i:Nat) (h:Ψ[i]? = some ⟨fzG Ψ i,fzL Ψ i,.rep (fzA Ψ i) (fzC Ψ i) xs⟩:=by kernel_rfl) (hl:fzL Ψ i=roF ρ:=by kernel_rfl):RepS w all (fzA Ψ i) xs.length (fzC Ψ i) xs:=Z _ (AV h) hl
theorem GA.D0 (q:Nat){v:Value}(Z:St κ ρ Φ Ψ Θ w) (hc:∀ w1,Sg ρ Ψ w1→Calls P f args.toArray w1 (Af fun rv w'=>rv=v∧Ext w1 w')) (H:GA P (rS ρ) n m L ops (q::l) (Ag e (Ad ops q).dst v) w)
 (h:NP P n m ops l q e=some (f,args):=by kernel_rfl):GA P (rS ρ) n m L ops l e w :=
 GA.NQ h (fun w1 hx=>hc w1 fun f hf hl=>Fr.fr (Z.fz f hf) (fun b hb hd=>⟨trivial,hx.block b hb (Z.Xy hl hd)⟩) hx.size) H
theorem GE.C0 {q:Nat}{v:Value}(hc:∀ w1,St κ ρ Φ Ψ Θ w1→Calls P f args.toArray w1 (Af fun rv w'=>rv=v∧Ext w1 w')) (Z:St κ ρ Φ Ψ Θ w)
 (H:∀ w',St κ ρ Φ Ψ Θ w'→GA P S n m L ops (q::l) (Ag e (Ad ops q).dst v) w') (h:Bf P n ops q e=some (f,args):=by kernel_rfl):GE P S n m L ops l q e w :=
 GE.cl (fun w1 hx=>hc w1 (Z.e hx)) (fun w1 hx _ w' ⟨h1,h2⟩=>⟨Ext.chg h2,h1▸H w' ((Z.e hx).e h2)⟩) h
theorem GE.CL {q:Nat}{G:World→Nat→Prop}(hc:∀ w1,St κ ρ Φ Ψ Θ w1→Calls P f args.toArray w1 (Af fun rv w'=>VL (G w1) w' ys rv∧Ext w1 w')) (Z:St κ ρ Φ Ψ Θ w) [∀ w1,Dm κ (bl Φ) w1 (G w1) g]
 (H:∀ a c w',St κ ρ Φ (⟨g,none,.rep a c ys⟩ :: Ψ) Θ w'→GA P S n m L ops (q::l) (Ag e (Ad ops q).dst (.slice a ys.length c)) w') (h:Bf P n ops q e=some (f,args):=by kernel_rfl):GE P S n m L ops l q e w :=
 GE.cl (fun w1 hx=>hc w1 (Z.e hx)) (fun w1 hx v w' ⟨h1,h2⟩=>⟨Ext.chg h2,(Z.e hx).vL h1 h2 (Q:=fun v=>GA P S n m L ops (q::l) (Ag e (Ad ops q).dst v) w') fun a c hz=>H a c w' hz⟩) h
theorem GE.CS {q:Nat}[Shp α] {G:World→Nat→Prop}(hc:∀ w1,St κ ρ Φ Ψ Θ w1→Calls P f args.toArray w1 (Af fun rv w'=>VS (G w1) w' y rv∧Ext w1 w')) (Z:St κ ρ Φ Ψ Θ w) [∀ w1,Dm κ (bl Φ) w1 (G w1) g]
 (H:Fa (Shp.k α) fun z=>∀ w',St κ ρ Φ (tg g none (Shp.facts y z)++Ψ) Θ w'→GA P S n m L ops (q::l) (Ag e (Ad ops q).dst (.agg (Shp.cells y z).toArray)) w') (h:Bf P n ops q e=some (f,args):=by kernel_rfl):GE P S n m L ops l q e w :=
 GE.cl (fun w1 hx=>hc w1 (Z.e hx)) (fun w1 hx v w' ⟨h1,h2⟩=>⟨Ext.chg h2,(Z.e hx).vS h1 h2 (Q:=fun v=>GA P S n m L ops (q::l) (Ag e (Ad ops q).dst v) w') (Eo _ (fun l h=>h w') H)⟩) h
theorem GE.CO {q:Nat}(g:Nat){t:Nat}(hc:∀ w1,St κ ρ Φ Ψ Θ w1→Calls P f args.toArray w1 (Af fun rv w'=>VO t w1.heap.size w' ys rv∧Ext w1 w')) (Z:St κ ρ Φ Ψ Θ w)
 (H:∀ r c w',St κ ρ (.own g r t c ys::Φ) Ψ Θ w'→GA P S n m L ops (q::l) (Ag e (Ad ops q).dst (.slice (some ⟨r,0,none⟩) ys.length c)) w') (h:Bf P n ops q e=some (f,args):=by kernel_rfl):GE P S n m L ops l q e w :=
 GE.cl (fun w1 hx=>hc w1 (Z.e hx)) (fun w1 hx v w' ⟨h1,h2⟩=>⟨Ext.chg h2,(Z.e hx).vO g h1 h2 (Q:=fun v=>GA P S n m L ops (q::l) (Ag e (Ad ops q).dst v) w') fun r c hz=>H r c w' hz⟩) h
theorem GE.CT {q:Nat}[Shp α] {G:World→Nat→Prop}{us:List Value}(hc:∀ w1,St κ ρ Φ Ψ Θ w1→Calls P f args.toArray w1 (Af fun rv w'=>(∃ v0,rv=.tuple (v0::us).toArray∧VS (G w1) w' y v0)∧Ext w1 w')) (Z:St κ ρ Φ Ψ Θ w) [∀ w1,Dm κ (bl Φ) w1 (G w1) g]
 (H:Fa (Shp.k α) fun z=>∀ w',St κ ρ Φ (tg g none (Shp.facts y z)++Ψ) Θ w'→GA P S n m L ops (q::l) (Ag e (Ad ops q).dst (.tuple (.agg (Shp.cells y z).toArray::us).toArray)) w') (h:Bf P n ops q e=some (f,args):=by kernel_rfl):GE P S n m L ops l q e w :=
 GE.cl (fun w1 hx=>hc w1 (Z.e hx)) (fun w1 hx v w' ⟨⟨v0,h0,h1⟩,h2⟩=>⟨Ext.chg h2,h0▸(Z.e hx).vS h1 h2 (Q:=fun v=>GA P S n m L ops (q::l) (Ag e (Ad ops q).dst (.tuple (v::us).toArray)) w') (Eo _ (fun l h=>h w') H)⟩) h
end
theorem GE.Cg {f:FuncId}{args:List Value}{q:Nat}{Q:World→Value→World→Prop}(hc:∀ w1,St κ ρ Φ Ψ Θ w1→Calls P f args.toArray w1 (Af (Q w1))) (Z:St κ ρ Φ Ψ Θ w)
 (H:∀ w1 v w',St κ ρ Φ Ψ Θ w1→Q w1 v w'→Chg S w1 w'∧GA P S n m L ops (q::l) (Ag e (Ad ops q).dst v) w') (h:Bf P n ops q e=some (f,args):=by kernel_rfl):GE P S n m L ops l q e w :=
 GE.cl (fun w1 hx=>hc w1 (Z.e hx)) (fun w1 hx v w' hq=>H w1 v w' (Z.e hx) hq) h
def slL (o:Option (TypeId × Value × Option Value × Option Value)):Option Value:=match o with | some (_,_,a,_)=>a | none=>none
def slH (o:Option (TypeId × Value × Option Value × Option Value)):Option Value:=match o with | some (_,_,_,a)=>a | none=>none
def slT (o:Option (TypeId × Value × Option Value × Option Value)):Nat:=match o with | some (t,_)=>t | none=>0
theorem bdS {o:Option Value}{l d:Nat}(h:o=some (.int .i64 (l:Int))):bnd o d l:=.inr ⟨_,_,h,rfl⟩
theorem bdN {o:Option Value}{l d:Nat}(h:o=none) (h':l=d):bnd o d l:=.inl ⟨h,h'⟩
theorem bdI {o:Option Value}{l d:Nat}(z:Int) (h:z=(l:Int):=by omega) (hv:o=some (.int .i64 z):=by kernel_rfl):bnd o d l:=.inr ⟨_,z,hv,h⟩
theorem RG.Sb (i l h':Nat) (xs:List α) (Z:St κ ρ Φ Ψ Θ w) (H:∀ a c,St κ ρ Φ (⟨fzG Ψ i,fzL Ψ i,.rep a c ((xs.take h').drop l)⟩ :: Ψ) Θ w→RG P n K ops (j+1) (Ag e (Ad ops j).dst (.slice a ((xs.take h').drop l).length c)) w)
 (hlo:bnd (slL (Db n ops j e)) 0 l:=by exact bdN AA AA)
 (hhi:bnd (slH (Db n ops j e)) xs.length h':=by exact bdN AA AA)
 (hlh:l≤h':=by omega) (hh:h'≤xs.length:=by omega) (hf:Ψ[i]? = some ⟨fzG Ψ i,fzL Ψ i,.rep (fzA Ψ i) (fzC Ψ i) xs⟩:=by kernel_rfl)
 (h:Db n ops j e=some (slT (Db n ops j e),.slice (fzA Ψ i) xs.length (fzC Ψ i),slL (Db n ops j e),slH (Db n ops j e)):=by kernel_rfl) (ht:Kl P (slT (Db n ops j e)) (Rep.sz α)=true:=by kernel_rfl):RG P n K ops j e w :=
 RG.sub (Z.f i xs hf) l h' h ht hlo hhi hlh hh fun a c hr=>by
  have hl:=hr.len
  rw [hl] at hr ⊢
  exact H a c (Z.add (Ψ':=[_]) fun f hf=>by cases List.mem_singleton.1 hf; exact hr)
theorem GA.Sb (q i l' h':Nat) (xs:List α) (Z:St κ ρ Φ Ψ Θ w) (H:∀ a c,St κ ρ Φ (⟨fzG Ψ i,fzL Ψ i,.rep a c ((xs.take h').drop l')⟩ :: Ψ) Θ w→GA P S n m L ops (q::l) (Ag e (Ad ops q).dst (.slice a ((xs.take h').drop l').length c)) w)
 (hlo:bnd (slL (Db n ops q e)) 0 l':=by exact bdN AA AA)
 (hhi:bnd (slH (Db n ops q e)) xs.length h':=by exact bdN AA AA)
 (hlh:l'≤h':=by omega) (hh:h'≤xs.length:=by omega) (hf:Ψ[i]? = some ⟨fzG Ψ i,fzL Ψ i,.rep (fzA Ψ i) (fzC Ψ i) xs⟩:=by kernel_rfl)
 (h:Db n ops q e=some (slT (Db n ops q e),.slice (fzA Ψ i) xs.length (fzC Ψ i),slL (Db n ops q e),slH (Db n ops q e)):=by kernel_rfl) (ht:Kl P (slT (Db n ops q e)) (Rep.sz α)=true:=by kernel_rfl) (hb:gB n m ops l q=true:=by kernel_rfl):GA P S n m L ops l e w :=
 GA.sub hb (Z.f i xs hf) l' h' h ht hlo hhi hlh hh fun a c hr=>by
  have hl:=hr.len
  rw [hl] at hr ⊢
  exact H a c (Z.add (Ψ':=[_]) fun f hf=>by cases List.mem_singleton.1 hf; exact hr)
def inF (s:Nat) (M:List Nat) (Ψ:List Fz):List Fz:=Ψ.map fun f=>⟨f.g,some (s,M),f.r⟩
def ouF (Ψ:List Fz):List Fz:=Ψ.map fun f=>⟨f.g,none,f.r⟩
theorem St.in_ (Z:St κ none Φ Ψ Θ w) (O:List Nat):St κ (some ⟨w.heap.size,bl Φ,O⟩) Φ (inF w.heap.size (bl Φ) Ψ) Θ w :=
 ⟨Z.nd,Z.lt,Z.cv,Z.ob,fun f hf=>by
  obtain ⟨q,hq,rfl⟩:=List.mem_map.1 hf
  exact Fr.fr (Z.fz q hq) (fun b hb hd=>⟨⟨⟨Cx.dg hd.1,hb,hd.2⟩,hd.2⟩,rfl⟩) (Nat.le_refl _),Z.th,Z.ch,Nat.le_refl _,fun _ h=>.inl h⟩
theorem St.ou (Z:St κ ρ Φ Ψ Θ w):St κ none Φ (ouF Ψ) Θ w :=
 ⟨Z.nd,Z.lt,Z.cv,Z.ob,fun f hf=>by
  obtain ⟨q,hq,rfl⟩:=List.mem_map.1 hf
  exact Fr.fr (Z.fz q hq) (fun b hb hd=>⟨⟨Cx.dg hd.1,hd.2⟩,rfl⟩) (Nat.le_refl _),Z.th,Z.ch,trivial⟩
theorem GA.Dn (Z:St κ ρ Φ Ψ Θ w) (H:∀ w1,St κ ρ Φ Ψ Θ w1→L e w1) (h:(Nat.beq l.length m&&Nat.beq (DI l) (DI (List.range m)))=true:=by kernel_rfl):GA P S n m L ops l e w:=GA.d (fun w1 hx=>H w1 (Z.e hx)) h
theorem GA.Do (Z:St κ ρ Φ Ψ Θ w) (H:∀ w1,St κ none Φ (ouF Ψ) Θ w1→L e w1) (h:(Nat.beq l.length m&&Nat.beq (DI l) (DI (List.range m)))=true:=by kernel_rfl):GA P S n m L ops l e w:=GA.d (fun w1 hx=>H w1 (Z.e hx).ou) h
theorem GA.Sk (Z:St κ ρ Φ Ψ Θ w) (H:∀ w1,St κ ρ Φ Ψ Θ w1→L (RQ ops m l e) w1) (h:TG n m ops l e=true:=by kernel_rfl):GA P S n m L ops l e w:=GA.skip h fun w1 hx=>H w1 (Z.e hx)
section
variable {f:FuncId} {fn:Func} {R:Value→World→Prop} {c:Code} {k:List Item} {X:Type}
theorem T.Gd (m:Nat) (Z:St κ none Φ Ψ Θ w) (H:∀ w1,St κ none Φ Ψ Θ w1→GA P nil fn.ntmps m (fun e' w'=>RG P fn.ntmps (fun e'' w''=>T P f fn R k e'' w'') (FG c) m e' w') (FG c) [] e w1)
 (h:(G3 c true&&P.follows .mixedOrders&&IJ (FG c) m)=true:=by kernel_rfl):T P f fn R (.code c::k) e w:=T.gd nil m (fun w1 hx=>H w1 (Z.e hx)) h
theorem T.GS (m:Nat) (O:List Nat) (Z:St κ none Φ Ψ Θ w)
 (H:∀ s w1,St κ (some ⟨s,bl Φ,O⟩) Φ (inF s (bl Φ) Ψ) Θ w1→GA P (rS (some ⟨s,bl Φ,O⟩)) fn.ntmps m (fun e' w'=>RG P fn.ntmps (fun e'' w''=>T P f fn R k e'' w'') (FG c) m e' w') (FG c) [] e w1)
 (h:(G3 c true&&P.follows .mixedOrders&&IJ (FG c) m)=true:=by kernel_rfl):T P f fn R (.code c::k) e w:=T.gd _ m (fun w1 hx=>H w.heap.size w1 ((Z.in_ O).e hx)) h
def agr (e:Env) (V:List (Nat × Value)):Prop:=V.map (fun p=>e p.1)=V.map (fun p=>p.2)
theorem Jo:∀ {V:List (Nat × Value)},agr e V→GQ e V
 | [],_=>trivial
 | _ :: _, h => by
   simp only [agr,List.map_cons,List.cons.injEq] at h
   exact ⟨h.1,Jo h.2⟩
def upO (Φ:List Ob):List (Nat × Ob)→List Ob
 | []=>Φ
 | p::r=>upO (Φ.set p.1 p.2) r
theorem St.to (Z:St κ ρ Φ' Ψ' Θ' w) (k:Nat) (js:List Nat) (d:Nat) (h1:Φ'.drop k=Φ:=by kernel_rfl) (h2:Ψ.map some=js.map (fun i=>Ψ'[i]?)++(Ψ'.drop d).map some:=by kernel_rfl):St κ ρ Φ Ψ [] w:=by
 refine Z.less (h1▸List.drop_sublist _ _) (fun f hf=>?_) (fun _ h=>by cases h)
 have:some f∈Ψ.map some:=List.mem_map.2 ⟨f,hf,rfl⟩
 rw [h2] at this
 rcases List.mem_append.1 this with h | h
 ·obtain ⟨i,_,hi⟩:=List.mem_map.1 h
  exact AV hi
 ·obtain ⟨q,hq,he⟩:=List.mem_map.1 h
  cases he
  exact List.mem_of_mem_drop hq
theorem T.Lp {X:Type}(x0:X) (B:X→List (Nat × Value) × List (Nat × Ob) × List Fz × Nat × Prop) (js:List Nat) (Z:St κ none Φ Ψ Θ w) (hJ:(B x0).2.2.2.2)
 (H:∀ x e w,St κ none (upO Φ (B x).2.1) ((B x).2.2.1++Ψ) [] w→(B x).2.2.2.2→(∀ y e' w',(B y).1.map (fun p=>e' p.1)=(B y).1.map (fun p=>p.2)→St κ none (upO Φ (B y).2.1) ((B y).2.2.1++Ψ) [] w'→(B y).2.2.2.2→(B y).2.2.2.1< (B x).2.2.2.1→T P f fn R (.inLoop (bdy c)::k) e' w') →
  T P f fn R (.code (bdy c) :: .inLoop (bdy c)::k) (Ou e (B x).1) w)
 (h:N9 c=true:=by kernel_rfl) (ha:(B x0).1.map (fun p=>e p.1)=(B x0).1.map (fun p=>p.2):=by kernel_rfl) (hu:Φ.drop 0=upO Φ (B x0).2.1:=by kernel_rfl) (hw:((B x0).2.2.1++Ψ).map some=js.map (fun i=>Ψ[i]?)++(Ψ.drop 0).map some:=by kernel_rfl):T P f fn R (.code c::k) e w :=
 T.loop x0 (fun x=>(B x).1) (fun x w=>St κ none (upO Φ (B x).2.1) ((B x).2.2.1++Ψ) [] w∧(B x).2.2.2.2) (fun x=>(B x).2.2.2.1) h (Jo ha) ⟨Z.to 0 js 0 hu hw,hJ⟩
  fun x e w ⟨hz,hj⟩ hb=>H x e w hz hj fun y e' w' h1 h2 h3 h4=>hb y e' w' (Jo h1) ⟨h2,h3⟩ h4
@[reducible] def sA (b:Nat):Option Addr:=some ⟨b,0,none⟩
@[reducible] def vP (b:Nat):Value:=.pointer (some ⟨b,0,none⟩)
theorem St.i0 (F:Nat→Prop) (w:World):St ⟨F,w,[]⟩ none [] [] [] w :=
 ⟨List.nodup_nil,(fun _ h=>by cases h),(fun _ h=>by cases h),(fun _ h=>by cases h),(fun _ h=>by cases h),(fun _ h=>by cases h),Chg.refl _ _,trivial⟩
theorem St.p {F:Nat→Prop}{a:Option Addr}{c:Nat}(Z:St ⟨F,w,[]⟩ none [] Ψ [] w) (h:RepS w F a xs.length c xs):St ⟨F,w,[]⟩ none [] (⟨1,none,.rep a c xs⟩ :: Ψ) [] w :=
 Z.add (Ψ':=[⟨1,none,.rep a c xs⟩]) fun f hf=>by cases List.mem_singleton.1 hf; exact RepS.top h
theorem St.pb' {F:Nat→Prop}{b t:Nat}{cs:List Value}(Z:St ⟨F,w,[]⟩ none [] Ψ [] w) (h:Box w b t cs):St ⟨F,w,[]⟩ none [] (⟨2,none,.has b 0 cs⟩ :: Ψ) [] w :=
 Z.add (Ψ':=[⟨2,none,.has b 0 cs⟩]) fun f hf=>by cases List.mem_singleton.1 hf; exact ⟨h.has 0 cs AD,⟨trivial,fun h=>by cases h⟩,h.lt⟩
theorem St.xt {F:Nat→Prop}{w0:World}(Z:St ⟨F,w0,[]⟩ ρ Φ Ψ Θ w):Ext w0 w:=Chg.Bj Z.ch fun _ _ h=>by cases h
theorem St.rL (Z:St κ ρ Φ Ψ Θ w) (i:Nat) (xs:List α) (h:xs=ys){v:Value}(g:Nat:=0) (hf:Ψ[i]? = some ⟨fzG Ψ i,fzL Ψ i,.rep (fzA Ψ i) (fzC Ψ i) xs⟩:=by kernel_rfl) (hg:gle (fzG Ψ i) g=true:=by kernel_rfl)
 (hv:v=.slice (fzA Ψ i) xs.length (fzC Ψ i):=by kernel_rfl):VL (κ.g g) w ys v:=by
 subst h; subst hv
 exact ⟨_,_,rfl,(Z.mg g i hf hg).w1⟩
theorem St.rM (Z:St κ ρ Φ Ψ Θ w) (i:Nat) (xs:List α) (h:xs=ys){v:Value}(g:Nat:=0) (hf:Φ[i]? = some (.own (owG Φ i) (obB Φ i) (owT Φ i) (owC Φ i) xs):=by kernel_rfl) (hg:gle (owG Φ i) g=true:=by kernel_rfl)
 (hv:v=.slice (some ⟨obB Φ i,0,none⟩) xs.length (owC Φ i):=by kernel_rfl):VL (κ.g g) w ys v:=by
 subst h; subst hv
 have ho:=Z.ow i xs hf
 exact ⟨_,_,rfl,ho.1.QQ (fun b _ hb=>Cx.le hg hb.1) (Cx.nw ho.2)⟩
theorem St.rS [Shp α] (Z:St κ ρ Φ Ψ Θ w) (x:α) (is:List Nat) (h:x=y){v:Value}(g:Nat:=0) (hf:frs Ψ is=(Shp.facts x (acs Ψ is)).map some:=by kernel_rfl) (hg:(is.all fun i=>gle (fzG Ψ i) g)=true:=by kernel_rfl)
 (hv:v=.agg (Shp.cells x (acs Ψ is)).toArray:=by kernel_rfl):VS (κ.g g) w y v:=by
 subst h; subst hv
 exact ⟨_,rfl,Rep.frame (Z.ro hf hg) fun _ _ hb=>⟨hb.1,rfl⟩⟩
theorem St.rO {t:Nat}(Z:St κ ρ Φ Ψ Θ w) (i:Nat) (xs:List α) (h:xs=ys){v:Value}(hf:Φ[i]? = some (.own 0 (obB Φ i) t (owC Φ i) xs):=by kernel_rfl)
 (hv:v=.slice (some ⟨obB Φ i,0,none⟩) xs.length (owC Φ i):=by kernel_rfl):VO t κ.w.heap.size w ys v:=by
 have ho:Own w (obB Φ i) t (nin (κ.g 0) (bl Φ)) xs.length (owC Φ i) xs∧κ.w.heap.size≤obB Φ i:=Z.ob _ (AV hf)
 subst hv
 exact VO.of ho.1 h ho.2
theorem T.Rt {t:Nat}(hf:P.funcs[f]? = some fn) (hres:fn.results = #[.tmp t]) (hR:R (e t) w) (h:Fb c=true:=by kernel_rfl):T P f fn R (.code c::k) e w:=T.rt hf hres (e t) hR h rfl
theorem CK.T (t:Nat):CK P w e (.tmp t) (e t):=rfl
theorem CK.B {x t:Nat}(i:Nat) (Z:St κ ρ Φ Ψ Θ w) (hb:Φ[i]? = some (.box (obB Φ i) (bxT Φ i) (bxC Φ i)):=by kernel_rfl) (h1:e x=.pointer (some ⟨obB Φ i,0,none⟩):=by kernel_rfl) (h2:F3 P t (bxC Φ i).length=true:=by kernel_rfl):CK P w e (.cell x t) (.agg (bxC Φ i).toArray) :=
 CK.bx (Z.bx i hb) h1 h2
theorem CK.C {x t:Nat}(i:Nat) (v:Value) (Z:St κ ρ Φ Ψ Θ w) (hb:Φ[i]? = some (.box (obB Φ i) (bxT Φ i) [v]):=by kernel_rfl) (h1:e x=.pointer (some ⟨obB Φ i,0,none⟩):=by kernel_rfl) (h2:Bp P t=true:=by kernel_rfl):CK P w e (.cell x t) v:=by
 have hB:Box w (obB Φ i) (bxT Φ i) [v]:=Z.ob _ (AV hb)
 exact ⟨_,h1,(hB.has 0 [v] rfl).XC h2 rfl⟩
theorem T.Rb {x t:Nat}(i:Nat) (hf:P.funcs[f]? = some fn) (hres:fn.results = #[.cell x t]) (Z:St κ ρ Φ Ψ Θ w) (hR:R (.agg (bxC Φ i).toArray) w) (h:Fb c=true:=by kernel_rfl)
 (hb:Φ[i]? = some (.box (obB Φ i) (bxT Φ i) (bxC Φ i)):=by kernel_rfl) (h1:e x=.pointer (some ⟨obB Φ i,0,none⟩):=by kernel_rfl) (h2:F3 P t (bxC Φ i).length=true:=by kernel_rfl):T P f fn R (.code c::k) e w :=
 T.rb hf hres (Z.bx i hb) hR h h1 h2
end
end
def ga (l:List (Option Addr × Nat)) (i:Nat):Option Addr:=match l[i]? with | some p=>p.1 | none=>none
def gc (l:List (Option Addr × Nat)) (i:Nat):Nat:=match l[i]? with | some p=>p.2 | none=>0
def sv {α:Type}(l:List (Option Addr × Nat)) (i:Nat) (xs:List α):Value:=.slice (ga l i) xs.length (gc l i)
def sf {α:Type}[Rep α] (l:List (Option Addr × Nat)) (i:Nat) (xs:List α):Fr:=.rep (ga l i) (gc l i) xs
instance:Shp Int:=⟨0,fun x _=>[.int .i64 x],fun _ _=>[],fun h=>⟨[],rfl,h,fun _ h=>by cases h⟩,fun _ _=>rfl⟩
instance:Shp UInt8:=⟨0,fun x _=>[.int .u8 (x.toNat:Int)],fun _ _=>[],fun h=>⟨[],rfl,h,fun _ h=>by cases h⟩,fun _ _=>rfl⟩
instance:Shp Row:=⟨0,fun x _=>[.int .i64 x.t,.int .i64 x.v],fun _ _=>[],fun h=>⟨[],rfl,h,fun _ h=>by cases h⟩,fun _ _=>rfl⟩
instance:Shp Tag:=⟨0,fun x _=>[.string (bs x.key),.string (bs x.val)],fun _ _=>[],fun h=>⟨[],rfl,h,fun _ h=>by cases h⟩,fun _ _=>rfl⟩
instance:Shp Cnd:=⟨0,fun x _=>[.string (bs x.tag.key),.string (bs x.tag.val),.bool x.no],fun _ _=>[],fun h=>⟨[],rfl,h,fun _ h=>by cases h⟩,fun _ _=>rfl⟩
instance:Shp Smp:=⟨0,fun x _=>[.int .i64 x.id,.int .i64 x.row.t,.int .i64 x.row.v],fun _ _=>[],fun h=>⟨[],rfl,h,fun _ h=>by cases h⟩,fun _ _=>rfl⟩
section
variable {w:World} {F:Nat→Prop} {α β γ δ:Type} [Rep α] [Rep β] [Rep γ] [Rep δ]
theorem fk {a:Option Addr}{n c:Nat}{xs:List α}(h:RepS w F a n c xs):n=xs.length∧Fr.ok w F (.rep a c xs):=by
 have hl:=h.len
 exact ⟨hl,by rw [hl] at h; exact h⟩
theorem fn_:∀ f∈([]:List Fr),f.ok w F:=fun _ h=>by cases h
theorem fc {f:Fr}{fs:List Fr}(h:f.ok w F) (hs:∀ f∈fs,f.ok w F):∀ q∈f::fs,q.ok w F:=fun q hq=>by
 rcases List.mem_cons.1 hq with rfl | hq
 ·exact h
 ·exact hs q hq
theorem fh {f:Fr}{fs:List Fr}(h:∀ q∈f::fs,q.ok w F):f.ok w F:=h f AI
theorem ft {f:Fr}{fs:List Fr}(h:∀ q∈f::fs,q.ok w F):∀ q∈fs,q.ok w F:=fun q hq=>h q (.tail _ hq)
end
instance {α:Type}[Rep α]:Shp (List α):=⟨1,fun x l=>[sv l 0 x],fun x l=>[sf l 0 x],fun {w F x cs} h=>by
 obtain ⟨a,n,c,rfl,h⟩:=h
 obtain ⟨rfl,h⟩:=fk h
 exact ⟨[(a,c)],rfl,rfl,fc h fn_⟩,fun l h=>⟨_,_,_,rfl,fh h⟩⟩
instance:Shp Pst:=⟨1,fun x l=>[.string (bs x.tag.key),.string (bs x.tag.val),sv l 0 x.ids],fun x l=>[sf l 0 x.ids],fun {w F x cs} h=>by
 obtain ⟨a,n,c,rfl,h⟩:=h
 obtain ⟨rfl,h⟩:=fk h
 exact ⟨[(a,c)],rfl,rfl,fc h fn_⟩,fun l h=>⟨_,_,_,rfl,fh h⟩⟩
instance:Shp Evt:=⟨1,fun x l=>[.int .i64 x.kind,.int .i64 x.at_,.int .i64 x.cut,sv l 0 x.name,.int .i64 x.row.t,.int .i64 x.row.v],fun x l=>[sf l 0 x.name],fun {w F x cs} h=>by
 obtain ⟨a,n,c,rfl,h⟩:=h
 obtain ⟨rfl,h⟩:=fk h
 exact ⟨[(a,c)],rfl,rfl,fc h fn_⟩,fun l h=>⟨_,_,_,rfl,fh h⟩⟩
instance:Shp Prt:=⟨2,fun x l=>[sv l 0 x.ids,sv l 1 x.blocks],fun x l=>[sf l 0 x.ids,sf l 1 x.blocks],fun {w F x cs} h=>by
 obtain ⟨a,n,c,a',n',c',rfl,h,h'⟩:=h
 obtain ⟨rfl,h⟩:=fk h
 obtain ⟨rfl,h'⟩:=fk h'
 exact ⟨[(a,c),(a',c')],rfl,rfl,fc h (fc h' fn_)⟩,fun l h=>⟨_,_,_,_,_,_,rfl,fh h,fh (ft h)⟩⟩
instance:Shp Fil:=⟨2,fun x l=>[.int .i64 x.num,sv l 0 x.part.ids,sv l 1 x.part.blocks],fun x l=>[sf l 0 x.part.ids,sf l 1 x.part.blocks],fun {w F x cs} h=>by
 obtain ⟨a,n,c,a',n',c',rfl,h,h'⟩:=h
 obtain ⟨rfl,h⟩:=fk h
 obtain ⟨rfl,h'⟩:=fk h'
 exact ⟨[(a,c),(a',c')],rfl,rfl,fc h (fc h' fn_)⟩,fun l h=>⟨_,_,_,_,_,_,rfl,fh h,fh (ft h)⟩⟩
instance:Shp Idx:=⟨2,fun x l=>[sv l 0 x.names,sv l 1 x.AX],fun x l=>[sf l 0 x.names,sf l 1 x.AX],fun {w F x cs} h=>by
 obtain ⟨a,n,c,a',n',c',rfl,h,h'⟩:=h
 obtain ⟨rfl,h⟩:=fk h
 obtain ⟨rfl,h'⟩:=fk h'
 exact ⟨[(a,c),(a',c')],rfl,rfl,fc h (fc h' fn_)⟩,fun l h=>⟨_,_,_,_,_,_,rfl,fh h,fh (ft h)⟩⟩
instance:Shp Dsk:=⟨3,fun x l=>[sv l 0 x.files,sv l 1 x.list,sv l 2 x.names,.int .i64 x.next],fun x l=>[sf l 0 x.files,sf l 1 x.list,sf l 2 x.names],fun {w F x cs} h=>by
 obtain ⟨a,n,c,a',n',c',a2,n2,c2,rfl,h,h',h2⟩:=h
 obtain ⟨rfl,h⟩:=fk h
 obtain ⟨rfl,h'⟩:=fk h'
 obtain ⟨rfl,h2⟩:=fk h2
 exact ⟨[(a,c),(a',c'),(a2,c2)],rfl,rfl,fc h (fc h' (fc h2 fn_))⟩,fun l h=>⟨_,_,_,_,_,_,_,_,_,rfl,fh h,fh (ft h),fh (ft (ft h))⟩⟩
instance:Shp Stp:=⟨4,fun x l=>[.int .i64 x.kind,.int .i64 x.num,sv l 0 x.part.ids,sv l 1 x.part.blocks,sv l 2 x.list,sv l 3 x.names],fun x l=>[sf l 0 x.part.ids,sf l 1 x.part.blocks,sf l 2 x.list,sf l 3 x.names],fun {w F x cs} h=>by
 obtain ⟨a,n,c,a',n',c',a2,n2,c2,a3,n3,c3,rfl,h,h',h2,h3⟩:=h
 obtain ⟨rfl,h⟩:=fk h
 obtain ⟨rfl,h'⟩:=fk h'
 obtain ⟨rfl,h2⟩:=fk h2
 obtain ⟨rfl,h3⟩:=fk h3
 exact ⟨[(a,c),(a',c'),(a2,c2),(a3,c3)],rfl,rfl,fc h (fc h' (fc h2 (fc h3 fn_)))⟩,fun l h=>⟨_,_,_,_,_,_,_,_,_,_,_,_,rfl,fh h,fh (ft h),fh (ft (ft h)),fh (ft (ft (ft h)))⟩⟩
instance:Shp Sto:=⟨4,fun x l=>[sv l 0 x.idx.names,sv l 1 x.idx.AX,sv l 2 x.parts,sv l 3 x.mem],fun x l=>[sf l 0 x.idx.names,sf l 1 x.idx.AX,sf l 2 x.parts,sf l 3 x.mem],fun {w F x cs} h=>by
 obtain ⟨a,n,c,a',n',c',a2,n2,c2,a3,n3,c3,rfl,h,h',h2,h3⟩:=h
 obtain ⟨rfl,h⟩:=fk h
 obtain ⟨rfl,h'⟩:=fk h'
 obtain ⟨rfl,h2⟩:=fk h2
 obtain ⟨rfl,h3⟩:=fk h3
 exact ⟨[(a,c),(a',c'),(a2,c2),(a3,c3)],rfl,rfl,fc h (fc h' (fc h2 (fc h3 fn_)))⟩,fun l h=>⟨_,_,_,_,_,_,_,_,_,_,_,_,rfl,fh h,fh (ft h),fh (ft (ft h)),fh (ft (ft (ft h)))⟩⟩
instance:Shp Wld:=⟨7,fun x l=>[sv l 0 x.store.idx.names,sv l 1 x.store.idx.AX,sv l 2 x.store.parts,sv l 3 x.store.mem,sv l 4 x.disk.files,sv l 5 x.disk.list,sv l 6 x.disk.names,.int .i64 x.disk.next],
 fun x l=>[sf l 0 x.store.idx.names,sf l 1 x.store.idx.AX,sf l 2 x.store.parts,sf l 3 x.store.mem,sf l 4 x.disk.files,sf l 5 x.disk.list,sf l 6 x.disk.names],fun {w F x cs} h=>by
 obtain ⟨a,n,c,a',n',c',a2,n2,c2,a3,n3,c3,a4,n4,c4,a5,n5,c5,a6,n6,c6,rfl,h,h',h2,h3,h4,h5,h6⟩:=h
 obtain ⟨rfl,h⟩:=fk h
 obtain ⟨rfl,h'⟩:=fk h'
 obtain ⟨rfl,h2⟩:=fk h2
 obtain ⟨rfl,h3⟩:=fk h3
 obtain ⟨rfl,h4⟩:=fk h4
 obtain ⟨rfl,h5⟩:=fk h5
 obtain ⟨rfl,h6⟩:=fk h6
 exact ⟨[(a,c),(a',c'),(a2,c2),(a3,c3),(a4,c4),(a5,c5),(a6,c6)],rfl,rfl,fc h (fc h' (fc h2 (fc h3 (fc h4 (fc h5 (fc h6 fn_))))))⟩,
 fun l h=>⟨_,_,_,_,_,_,_,_,_,_,_,_,_,_,_,_,_,_,_,_,_,rfl,fh h,fh (ft h),fh (ft (ft h)),fh (ft (ft (ft h))),fh (ft (ft (ft (ft h)))),fh (ft (ft (ft (ft (ft h))))),fh (ft (ft (ft (ft (ft (ft h))))))⟩⟩
end Go.Proofs.YtcginoabkicdiaaGreat
