/- Memory in two parts: the blocks M that the call still changes, and all the rest, which stands. No conditions. -/
import Derived.Test.YtggnnidleedpaaaGreatWmzEng
import Derived.MapKept
import Derived.Test.YtggnnidleedpaaaGreatProg
open Go.Proofs.Tryz
set_option linter.unusedVariables false
set_option linter.unusedSimpArgs false
namespace Go.Proofs.YtggnnidleedpaaaGreat
def nin (G:Nat→Prop) (M:List Nat) (b:Nat):Prop:=G b∧b∉M
def fo (F:Nat→Prop) (s:Nat) (b:Nat):Prop:=F b∨s≤b
def ins (L:List Nat) (b:Nat):Prop:=b∈L
def Mv (M M':List Nat) (w w':World):Prop:=∀ b,b< w.heap.size→b∉M→b∉M'∧w'.heap[b]? = w.heap[b]?
theorem Mv.mk {S:Nat→Prop}{M M':List Nat}{w w':World}(hx:Chg S w w') (h:∀ b,b< w.heap.size→b∉M→b∉M'∧¬ S b):Mv M M' w w' :=
 fun b hb hm=>⟨(h b hb hm).1,hx.block b hb (h b hb hm).2⟩
section
variable {α:Type} [Rep α] {w w':World} {G G':Nat→Prop} {M M':List Nat} {a:Option Addr} {n c r b:Nat} {t:TypeId} {xs:List α} {cs:List Value}
theorem RepS.mv (h:RepS w (nin G M) a n c xs) (hm:Mv M M' w w'):RepS w' (nin G M') a n c xs :=
 h.frame fun b hb hF=>⟨⟨hF.1,(hm b hb hF.2).1⟩,(hm b hb hF.2).2⟩
theorem RepS.base (h:RepS w (nin G M) a n c xs) (hg:∀ b,b< w.heap.size→G b→G' b):RepS w (nin G' M) a n c xs :=
 h.CE fun b hb hF=>⟨hg b hb hF.1,hF.2⟩
theorem Box.mv {S:Nat→Prop}(h:Box w b t cs) (hx:Chg S w w') (hb:¬ S b):Box w' b t cs:=h.chg hx hb
theorem Own.mv {S:Nat→Prop}(h:Own w r t (nin G M) n c xs) (hm:Mv M M' w w') (hx:Chg S w w') (hr:¬ S r):Own w' r t (nin G M') n c xs:=by
 refine ⟨h.len,h.le,h.cap,?_,fun i x hi=>?_⟩
 ·obtain ⟨cur,h1,h2⟩:=h.row
  exact ⟨cur,(hx.block r h.lt hr).trans h1,h2⟩
 ·obtain ⟨cs,h1,h2⟩:=h.elem i x hi
  exact ⟨cs,Rep.frame h1 (fun b hb hF=>⟨⟨⟨hF.1.1,(hm b hb hF.1.2).1⟩,hF.2⟩,(hm b hb hF.1.2).2⟩),h2.chg hx hr⟩
theorem Own.base (h:Own w r t (nin G M) n c xs) (hg:∀ b,b< w.heap.size→G b→G' b):Own w r t (nin G' M) n c xs :=
 h.CE fun b hb hF=>⟨hg b hb hF.1,hF.2⟩
theorem Own.Aj (h:Box w r t []):Own w r t (nin G M) 0 0 ([]:List α):=Own.nil h _
end
variable {w:World} {F:Nat→Prop}
theorem RepS.top {α:Type}[Rep α] {a:Option Addr}{n c s:Nat}{xs:List α}(h:RepS w F a n c xs):RepS w (nin (fo F s) []) a n c xs :=
 h.CE fun _ _ hF=>⟨.inl hF,by simp⟩
theorem RepS.fresh {α:Type}[Rep α] {w:World}{G:Nat→Prop}{M:List Nat}{a:Option Addr}{n c s:Nat}{xs:List α}(h:RepS w (ge s) a n c xs) (hM:∀ b,b∈M→b< s) (hG:∀ b,s≤b→G b):RepS w (nin G M) a n c xs :=
 h.CE fun b _ hF=>⟨hG b hF,fun hm=>by have:=hM b hm; unfold ge at hF; omega⟩
def mtb (L:List Nat) (s:Nat) (b:Nat):Prop:=b∈L∨s≤b
theorem RepS.blt {α:Type}[Rep α] {a:Option Addr}{n c:Nat}{xs:List α}(h:RepS w F a n c xs) (hn:0< n):blk a< w.heap.size:=by
 have hx:0< xs.length:=by have:=h.len; omega
 obtain ⟨cs,hr,hc⟩:=h.elem 0 xs[0] (by simp [hx])
 have hl:=Rep.len hr
 have hp:=Rep.pos (α:=α)
 have h0:=hc 0 cs[0] AD
 rw [add_lit] at h0
 exact World.block_lt_of_cell? w _ h0
theorem RepS.mixed {α:Type}[Rep α] {M M':List Nat}{a:Option Addr}{n c s s':Nat}{xs:List α}(h:RepS w (fo (nin (fo F s') M') s) a n c xs) (hM:∀ b,b∈M→b< s∧b∈M') (hs:s'≤s):RepS w (nin (fo F s') M) a n c xs :=
 h.CE fun b _ hF=>by
  rcases hF with hF | hF
  ·exact ⟨hF.1,fun hm=>hF.2 (hM b hm).2⟩
  ·exact ⟨.inr AB,fun hm=>by have:=(hM b hm).1; omega⟩
section
variable {α:Type} [Rep α] {w w':World} {G G':Nat→Prop} {M M':List Nat} {a:Option Addr} {n c r b:Nat} {t:TypeId} {xs:List α} {cs:List Value}
theorem Own.R4 (h:Own w r t (nin G M) n c xs) (hm:∀ b,b< w.heap.size→b∉M→b≠r→b∉M'):Own w r t (nin G M') n c xs :=
 ⟨h.len,h.le,h.cap,h.row,fun i x hi=>by
  obtain ⟨cs,h1,h2⟩:=h.elem i x hi
  exact ⟨cs,Rep.frame h1 (fun b hb hF=>⟨⟨⟨hF.1.1,hm b hb hF.1.2 hF.2⟩,hF.2⟩,rfl⟩),h2⟩⟩
theorem VS.of {F:Nat→Prop}{x y:α}{v:Value}(h:VS F w y v) (e:y=x):VS F w x v:=e▸h
end
def VO {α:Type}[Rep α] (t:TypeId) (s:Nat) (w:World) (xs:List α) (v:Value):Prop:=∃ r n c,v=.slice (some ⟨r,0,none⟩) n c∧Own w r t (nin (ge s) []) n c xs∧s≤r
theorem VO.of {α:Type}[Rep α] {t:TypeId}{s r n c:Nat}{w:World}{M:List Nat}{xs ys:List α}(h:Own w r t (nin (ge s) M) n c xs) (e:xs=ys) (hr:s≤r):VO t s w ys (.slice (some ⟨r,0,none⟩) n c) :=
 ⟨r,n,c,rfl,e▸h.R4 (fun _ _ _ _=>by simp),hr⟩
theorem Own.take {α:Type}[Rep α] {t:TypeId}{s s0 r n c:Nat}{w:World}{M:List Nat}{xs:List α}(h:Own w r t (nin (ge s) []) n c xs) (hM:∀ b,b∈M→b< s) (hs:s0≤s):Own w r t (nin (ge s0) (r::M)) n c xs :=
 ⟨h.len,h.le,h.cap,h.row,fun i x hi=>by
  obtain ⟨cs,h1,h2⟩:=h.elem i x hi
  refine ⟨cs,Rep.frame h1 (fun b hb hF=>⟨⟨⟨Nat.le_trans hs hF.1.1,fun hm=>?_⟩,hF.2⟩,rfl⟩),h2⟩
  rcases List.mem_cons.1 hm with rfl | hm
  ·exact hF.2 rfl
  ·have h3:=hM b hm
   have h4:s≤b:=hF.1.1
   omega⟩
def Flat (α:Type) [Rep α]:Prop:=∀ (w w':World) (F F':Nat→Prop) (x:α) (cs:List Value),Rep.rep w F x cs→Rep.rep w' F' x cs
theorem BS:Flat Int:=fun _ _ _ _ _ _ h=>h
theorem Bx:Flat Row:=fun _ _ _ _ _ _ h=>h
theorem JA:Flat Tag:=fun _ _ _ _ _ _ h=>h
theorem EU:Flat Smp:=fun _ _ _ _ _ _ h=>h
section
variable {α:Type} [Rep α] {w w':World} {F F':Nat→Prop} {a:Option Addr} {n c r m c':Nat} {t:TypeId} {xs ys:List α}
theorem Own.flat (hf:Flat α) (h:Own w r t F n c xs):Own w r t F' n c xs :=
 ⟨h.len,h.le,h.cap,h.row,fun i x hi=>by
  obtain ⟨cs,h1,h2⟩:=h.elem i x hi
  exact ⟨cs,hf _ _ _ _ _ _ h1,h2⟩⟩
theorem Own.Qu (hf:Flat α) (h:Own w r t F n c xs):RepS w (one r) (some ⟨r,0,none⟩) n c xs :=
 (h.flat (F':=fun _=>False) hf).O0 (fun _ _ h=>h.elim) rfl
theorem Own.BG {P:Program}{T ty:TypeId}{F2:Nat→Prop}(hf:Flat α) (ho:Own w r t F n c xs) (hT:G1 P T t (Rep.sz α)=true)
 (hn:RepS w F2 a m c' ys) (h2:∀ b,F2 b→b≠r) (hs:n+m≤100000000000) :
 ∃ r' c2 w', (Builtin.append_ #[T, T] ty #[.slice (some ⟨r, 0, none⟩) n c, .slice a m c']).run P w = .ok (.slice (some ⟨r', 0, none⟩) (n + m) c2) w' ∧
   Own w' r' t F (n+m) c2 (xs++ys)∧(r'=r∨r'=w.heap.size)∧Chg (one r) w w'∧w'.heap.size≤w.heap.size+1:=by
 obtain ⟨r',c2,w',h1,h3,h4,h5,h6⟩:=(ho.CE (F':=all) (fun _ _ _=>trivial)).append (P:=P) (T:=T) (ty:=ty) hT hn (fun b _ hb=>⟨trivial,h2 b hb⟩) hs
 exact ⟨r',c2,w',h1,h3.flat hf,h4,h5,h6⟩
theorem RG.BG {P:Program}{nn:Nat}{K:Env→World→Prop}{ops:Array Oper}{j:Nat}{e:Env}{T ty:TypeId}{F2:Nat→Prop}(hf:Flat α) (ho:Own w r t F n c xs) (hn:RepS w F2 a m c' ys)
 (h:IF nn ops j e=some (.append,[T,T],ty,[.slice (some ⟨r,0,none⟩) n c,.slice a m c'])) (hT:G1 P T t (Rep.sz α)=true)
 (h2:∀ b,F2 b→b≠r) (hs:n+m≤100000000000)
 (H:∀ r' c2 w',Own w' r' t F (n+m) c2 (xs++ys)→(r'=r∨r'=w.heap.size)→Chg (one r) w w'→RG P nn K ops (j+1) (BN e (Aq ops j).dst (.slice (some ⟨r',0,none⟩) (n+m) c2)) w'):RG P nn K ops j e w:=by
 obtain ⟨r',c2,w',hrun,ho',hor,hx,_⟩:=ho.BG (P:=P) (T:=T) (ty:=ty) hf hT hn h2 hs
 exact RG.append h hrun (H r' c2 w' ho' hor hx)
end
theorem Ai {α:Type}{xs:List α}{k:Nat}{x:α}(h:xs[k]? = some x):xs.drop k=x::xs.drop (k+1):=by
 obtain ⟨h1,h2⟩:=List.getElem?_eq_some_iff.1 h
 rw [List.drop_eq_getElem_cons h1,h2]
theorem Ab {α:Type}{xs:List α}{k:Nat}(h:xs.length≤k):xs.drop k=[]:=List.drop_of_length_le h
theorem Qv {P:Program}{n:Nat}{ops:Array Oper}{j:Nat}{e:Env}{w:World}{v:Value}{t:TypeId}{cs:List Value}(h:DF P n ops j e w.heap.size=some (v,t,cs)) :
 CT n ops j e=true∧(execOp (ev e) (Aq ops j)).run P w=.ok (.value v) (w.alloc (.cells cs.toArray t)):=by
 unfold DF at h
 split at h
 ·rename_i v' cs' t' hn
  simp only [Option.some.injEq,Prod.mk.injEq] at h
  obtain ⟨rfl,rfl,rfl⟩:=h
  obtain ⟨hg,h⟩:=CR hn
  refine ⟨hg,?_⟩
  split at h
  ·rename_i v2 o' hs
   simp only [Option.some.injEq,Prod.mk.injEq] at h
   obtain ⟨rfl,rfl⟩:=h
   rw [NH _ hs]
   have hp:w.heap++[Obj.cells cs' t' (0,0)].toArray=w.heap.push (Obj.cells cs'.toList.toArray t' (0,0)):=by simp
   rw [hp]
   rfl
  ·cases h
 ·cases h
theorem Qw {P:Program}{n:Nat}{ops:Array Oper}{j:Nat}{e:Env}{w w':World}{ats:List TypeId}{ty:TypeId}{args:List Value}{v:Value}(h:IF n ops j e=some (.append,ats,ty,args))
 (hr:(Builtin.append_ ats.toArray ty args.toArray).run P w=.ok v w'):(execOp (ev e) (Aq ops j)).run P w=.ok (.value v) w':=by
 obtain ⟨hg,h⟩:=CR h
 split at h
 ·rename_i c hop
  split at h
  ·rename_i b hcal
   simp only [Option.some.injEq,Prod.mk.injEq] at h
   obtain ⟨rfl,rfl,rfl,rfl⟩:=h
   have ha:(c.args.toList.map (ev e)).toArray=c.args.map (ev e):=by apply Array.toList_inj.1; simp
   rw [ha,Array.toArray_toList] at hr
   simp only [execOp,hop,resolve,hcal]
   exact AZ hr
  ·cases h
 ·cases h
section
variable {P:Program} {S:Nat→Prop} {n m:Nat} {L:Env→World→Prop} {ops:Array Oper} {l:List Nat} {e:Env} {w:World}
def GE (P:Program) (S:Nat→Prop) (n m:Nat) (L:Env→World→Prop) (ops:Array Oper) (l:List Nat) (i:Nat) (e:Env) (w:World):Prop :=
 ∀ w1,Ext w w1→FQ P S ((execOp (ev e) (Aq ops i)).run P w1) w1 (fun v w2=>GA P S n m L ops (i::l) (BN e (Aq ops i).dst v) w2)
theorem GE.one {i:Nat}(h:Qs n m ops l i e=true) (H:GE P S n m L ops l i e w):GA P S n m L ops l e w:=GA.one h H
def SY (n m:Nat) (ops:Array Oper) (l:List Nat) (i j:Nat) (e:Env):Bool :=
 DG n m ops l i&&CT n ops i e&&DG n m ops l j&&CT n ops j e&&(match I7 ops l with | [a,b]=>Nat.beq a i&&Nat.beq b j | _=>false)
theorem GE.two {i j:Nat}(h:SY n m ops l i j e=true) (Hi:GE P S n m L ops l i e w) (Hj:GE P S n m L ops l j e w):GA P S n m L ops l e w:=by
 intro hB f a hf ha inv
 simp only [SY,AW] at h
 obtain ⟨⟨⟨⟨h1,h2⟩,h3⟩,h4⟩,h5⟩:=h
 have hready:Region.ready .any ops (lst ops.size l)=[i,j]:=by
  split at h5
  ·rename_i a b hj
   simp only [AW] at h5
   rw [← Hc,hj,Nat.eq_of_beq_eq_true h5.1,Nat.eq_of_beq_eq_true h5.2]
  ·cases h5
 have hlm:=(Dw h1).1
 obtain ⟨f,rfl⟩:∃ g,f=g+1:=⟨f - 1,by omega⟩
 have key:∀ k,DG n m ops l k=true→CT n ops k e=true→GE P S n m L ops l k e w→∀ w1,Ext w w1→k< m∧gOp P S ops k (IP P S ops m (fun listed a' w'=>listed=fin ops m∧∃ e',Sees n a' e'∧L e' w') f ((lst ops.size l).setIfInBounds k true)) a w1:=by
  intro k hk1 hk2 HK w1 hx
  obtain ⟨_,him,hd,hi,hr⟩:=Dw hk1
  refine ⟨him,?_⟩
  simp only [CT,AW] at hk2
  unfold gOp
  simp only [hi]
  rw [ha.want,hk2.2,if_pos rfl,ha.eval]
  refine Dv (fun v w2 _ hq=>?_) (HK w1 hx)
  have:=hq hB f (a.put (Aq ops k).dst v) (by simp only [List.length_cons]; omega) (ha.Kh hd v) (by rw [DH]; exact inv.set hr him)
  rwa [DH] at this
 refine ⟨by rw [hready]; simp,fun w1 hx k hk=>?_⟩
 rw [hready] at hk
 rcases List.mem_cons.1 hk with rfl | hk
 ·exact key _ h1 h2 Hi w1 hx
 ·rcases List.mem_cons.1 hk with rfl | hk
  ·exact key _ h3 h4 Hj w1 hx
  ·cases hk
theorem GE.call {i:Nat}{f:FuncId}{args:List Value}{Q:World→Value→World→Prop}(hf:HZ P n ops i e=some (f,args))
 (hc:∀ w1,Ext w w1→Calls P f args.toArray w1 (BB (Q w1))) (H:∀ w1,Ext w w1→∀ v w2,Q w1 v w2→Chg S w1 w2∧GA P S n m L ops (i::l) (BN e (Aq ops i).dst v) w2):GE P S n m L ops l i e w:=fun w1 hx=>by
 rw [(I9 hf w1).2]
 exact ⟨Chg.refl S _,(hc w1 hx).mono fun x w2 ⟨u,hxu,hq⟩=>⟨u,hxu,H w1 hx u w2 hq⟩⟩
theorem GE.new {i:Nat}{v:Nat→Value}{t:TypeId}{cs:List Value}(hn:∀ b,DF P n ops i e b=some (v b,t,cs))
 (H:∀ w1,Ext w w1→∀ b w2,b=w1.heap.size→Ext w1 w2→Box w2 b t cs→w2.heap.size=b+1→GA P S n m L ops (i::l) (BN e (Aq ops i).dst (v b)) w2):GE P S n m L ops l i e w:=fun w1 hx=>by
 rw [(Qv (hn _)).2]
 exact ⟨(Ext.alloc _ _).chg,H w1 hx _ _ rfl (Ext.alloc _ _) (Box.new _ _ _) (by show (w1.heap.push _).size=_; simp)⟩
theorem GE.append {i:Nat}{T ty:TypeId}{args:List Value}(hb:IF n ops i e=some (.append,[T,T],ty,args))
 (H:∀ w1,Ext w w1→∃ v w2,(Builtin.append_ #[T,T] ty args.toArray).run P w1=.ok v w2∧Chg S w1 w2∧GA P S n m L ops (i::l) (BN e (Aq ops i).dst v) w2):GE P S n m L ops l i e w:=fun w1 hx=>by
 obtain ⟨v,w2,h1,h2,h3⟩:=H w1 hx
 rw [Qw hb h1]
 exact ⟨h2,h3⟩
theorem IG {i:Nat}{t:TypeId}{a:Addr}{v:Value}{w w':World}(h:storeAt n ops i e=some (t,a,v)) (hv:(storeVar t a v).run P w=.ok () w'):(execOp (ev e) (Aq ops i)).run P w=.ok .skip w':=by
 obtain ⟨hg,h⟩:=CR h
 split at h
 ·rename_i t' x v' hop
  split at h
  ·rename_i a' hx
   simp only [Option.some.injEq,Prod.mk.injEq] at h
   obtain ⟨rfl,rfl,rfl⟩:=h
   simp only [execOp,hop,hx]
   exact AZ hv
  ·cases h
 ·cases h
theorem GE.Dc {i:Nat}{t t':TypeId}{b o:Nat}{cs:List Value}{v:Value}(cs':List Value) (hb:Box w b t cs) (h:storeAt n ops i e=some (t',⟨b,o,none⟩,v))
 (hs:(Fh P t' v.cells.size&&Nat.ble (o+v.cells.size) cs.length&&v.cells.toList.all Dr)=true) (hc:BQ cs o v.cells.toList=cs')
 (H:∀ w1,Ext w w1→∀ w2,Chg (Go.Proofs.YtggnnidleedpaaaGreat.one b) w1 w2→Box w2 b t cs'→w2.heap.size=w1.heap.size→Chg S w1 w2∧GA P S n m L ops (i::l) (BN e (Aq ops i).dst undef) w2):GE P S n m L ops l i e w:=fun w1 hx=>by
 simp only [AW] at hs
 obtain ⟨w',hr,hb',hx2,hsz⟩:=(hb.ext hx).store (P:=P) (t':=t') (o:=o) (v:=v) hs.1.1 (Nat.le_of_ble_eq_true hs.1.2) hs.2
 rw [hc] at hb'
 rw [IG h hr]
 obtain ⟨h1,h2⟩:=H w1 hx w' hx2 hb' hsz
 exact ⟨h1,h2⟩
end
theorem LZ (s:ByteArray):∀ n i acc,n=s.size - i→ByteArray.toList.loop s i acc=acc.reverse++s.data.toList.drop i:=by
 intro n
 induction n with
 | zero =>
   intro i acc h
   unfold ByteArray.toList.loop
   have hs:s.size=s.data.toList.length:=rfl
   rw [if_neg AB,List.drop_of_length_le AB]
   simp
 | succ n ih =>
   intro i acc h
   unfold ByteArray.toList.loop
   have hs:s.size=s.data.toList.length:=rfl
   rw [if_pos AB,ih _ _ AB]
   rw [List.drop_eq_getElem_cons (by omega:i< s.data.toList.length)]
   have:s.get! i=s.data.toList[i]' AB:=by
    have hi:i< s.data.size:=by simpa using (by omega:i< s.data.toList.length)
    show s.data[i]! = _
    rw [getElem!_pos s.data i hi]
    simp
   rw [this]
   simp
theorem CZ (s:Str):(bs s).toList=s:=by
 unfold ByteArray.toList
 rw [LZ _ _ 0 [] rfl]
 simp [bs]
theorem GB (s:Str):(bs s).size=s.length:=by simp [bs,ByteArray.size]
theorem SZ (s t:Str):bs s++bs t=bs (s++t):=by
 apply ByteArray.ext
 simp [bs]
theorem Sa {s t:Str}(h:bs s=bs t):s=t:=by
 have:=congrArg (fun b:ByteArray=>b.data.toList) h
 simpa [bs] using this
theorem Sb (s t:Str):(bs s==bs t)=(s==t):=by
 rw [Bool.eq_iff_iff,Go.MapKept.bytes_beq,beq_iff_eq]
 exact ⟨Sa,fun h=>by rw [h]⟩
def By (s t:Str):Bool:=Op.bytesLess s t
def EV (s t:Str):Bool:=Op.bytesLess s t || s==t
theorem Te (s t:Str):Value.bool ((bs s).toList==(bs t).toList)=.bool (s==t):=by rw [CZ,CZ]
theorem UL (s t:Str):Value.bool (!((bs s).toList==(bs t).toList))=.bool (!(s==t)):=by rw [CZ,CZ]
theorem UM (s t:Str):Value.bool (Op.bytesLess (bs s).toList (bs t).toList)=.bool (By s t):=by rw [CZ,CZ]; rfl
theorem Tf (s t:Str):Value.bool (Op.bytesLess (bs s).toList (bs t).toList || (bs s).toList==(bs t).toList)=.bool (EV s t):=by rw [CZ,CZ]; rfl
theorem UN (s t:Str):Value.bool (!(Op.bytesLess (bs s).toList (bs t).toList || (bs s).toList==(bs t).toList))=.bool (!EV s t):=by rw [CZ,CZ]; rfl
theorem Qx (s t:Str):Value.bool (!(Op.bytesLess (bs s).toList (bs t).toList))=.bool (!By s t):=by rw [CZ,CZ]; rfl
theorem G3 (s:Str):Value.int .i64 ((bs s).size:Int)=.int .i64 (s.length:Int):=by rw [GB]
def ltG (G:Nat→Prop) (s b:Nat):Prop:=G b∧b< s
class Nb (a b:Nat):Prop where ne:a≠b
def Gb (s b:Nat):Prop:=s≤b
class Cov (L:Nat→Prop) (w:World) (b:Nat):Prop where or:L b∨w.heap.size≤b
def OrB (r r0 s:Nat):Prop:=r=r0∨s≤r
theorem Dd {α:Type}{xs:List α}{i:Nat}{x:α}(h:xs[i]? = some x):0< xs.length:=by
 obtain ⟨h1,_⟩:=List.getElem?_eq_some_iff.1 h
 omega
theorem all_nil {p:Nat→Prop}:∀ b∈([]:List Nat),p b:=fun _ h=>by cases h
theorem all_cons {p:Nat→Prop}{a:Nat}{l:List Nat}(h:p a) (hl:∀ b∈l,p b):∀ b∈a::l,p b:=fun b hb=>by
 rcases List.mem_cons.1 hb with rfl | hb
 ·exact h
 ·exact hl b hb
section
variable {a b x r r0 r2 s sz:Nat} {w w' base:World} {L:Nat→Prop}
instance:CoeFun (Nb a b) (fun _=>a=b→False):=⟨fun h=>h.ne⟩
instance:Coe (Nb a b) (a≠b):=⟨fun h=>h.ne⟩
instance:Coe (a≠b) (Nb a b):=⟨Nb.mk⟩
instance:Coe (Cov (Go.Proofs.YtggnnidleedpaaaGreat.one a) w b) (OrB b a w.heap.size):=⟨fun h=>h.or⟩
theorem Nb.symm (h:Nb a b):Nb b a:=⟨Ne.symm h.ne⟩
theorem Nb.one (h:Nb a b):¬ one b a:=h.ne
theorem AX (hb:b=s) (hx:x< s):Nb b x:=⟨by omega⟩
theorem Ah (hb:s≤b) (hx:x< s):Nb b x:=⟨by omega⟩
theorem Ag (h:r2=r∨r2=s) (h1:Nb r x) (h2:x< s):Nb r2 x:=⟨by have:=h1.ne; omega⟩
theorem Ay (h:OrB r r0 s) (h1:Nb r0 x) (h2:x< s):Nb r x:=⟨by have:=h1.ne; unfold OrB at h; omega⟩
theorem Ae (hb:b=sz) (hs:s≤sz):Gb s b:=by unfold Gb; omega
theorem Bo (hb:sz≤b) (hs:s≤sz):Gb s b:=by unfold Gb; omega
theorem Bt (h:r2=r∨r2=sz) (h1:Gb s r) (h2:s≤sz):Gb s r2:=by unfold Gb at *; omega
theorem Bz (h:OrB r r0 sz) (h1:Gb s r0) (h2:s≤sz):Gb s r:=by unfold Gb OrB at *; omega
theorem Bf (hb:b=sz) (hs:base.heap.size≤sz):Cov L base b:=⟨.inr AB⟩
theorem BT (hb:sz≤b) (hs:base.heap.size≤sz):Cov L base b:=⟨.inr AB⟩
theorem Aw (h:r2=r∨r2=sz) (h1:Cov L base r) (h2:base.heap.size≤sz):Cov L base r2:=by
 rcases h with rfl | rfl
 ·exact h1
 ·exact ⟨.inr h2⟩
theorem BA (h:OrB r r0 sz) (h1:Cov L base r0) (h2:base.heap.size≤sz):Cov L base r:=by
 rcases h with rfl | h
 ·exact h1
 ·exact ⟨.inr (Nat.le_trans h2 h)⟩
theorem CB (h:r2=r∨r2=sz) (h1:OrB r r0 s) (h2:s≤sz):OrB r2 r0 s:=by unfold OrB at *; omega
theorem NO (h:OrB r2 r sz) (h1:OrB r r0 s) (h2:s≤sz):OrB r2 r0 s:=by unfold OrB at *; omega
theorem BU:OrB r r s:=.inl rfl
theorem Chg.Cb {c d:World}(h:Chg L base c) (h':Ext c d):Chg L base d:=Chg.step h h' (fun _ h _=>h.elim)
theorem Chg.EW {c d:World}(h:Chg L base c) (h':Chg (Go.Proofs.YtggnnidleedpaaaGreat.one b) c d) (hc:Cov L base b):Chg L base d :=
 Chg.step h h' (fun k hk hlt=>by cases hk; exact hc.or.resolve_right AB)
theorem Chg.Cr {K:List Nat}{c d:World}(h:Chg L base c) (h':Chg (ins K) c d) (hc:∀ b∈K,Cov L base b):Chg L base d :=
 Chg.step h h' (fun k hk hlt=>(hc k hk).or.resolve_right AB)
theorem Cov.toS {K:List Nat}(h:Cov (mtb K w.heap.size) w b):mtb K w.heap.size b:=h.or.elim id .inr
theorem Chg.toS {K:List Nat}(h:Chg (Go.Proofs.YtggnnidleedpaaaGreat.one b) w w') (hc:mtb K s b):Chg (mtb K s) w w':=h.CE (fun k _ hk=>by cases hk; exact hc)
variable {M M' M2 A B:List Nat}
theorem Mv.ext (hx:Ext w w'):Mv M M w w':=Mv.mk hx (fun _ _ h=>⟨h,fun h=>h⟩)
theorem Mv.cons (hm:Mv M M' w w') (hs:w.heap.size≤b):Mv M (b::M') w w':=fun k hk hk'=>⟨by
 intro h
 rcases List.mem_cons.1 h with rfl | h
 ·omega
 ·exact (hm k hk hk').1 h,(hm k hk hk').2⟩
theorem Mv.on (hx:Chg (Go.Proofs.YtggnnidleedpaaaGreat.one b) w w') (hb:b∈M):Mv M M w w':=Mv.mk hx (fun k _ h=>⟨h,fun e=>h (by cases e; exact hb)⟩)
theorem Mv.app (A B:List Nat) (hx:Chg (Go.Proofs.YtggnnidleedpaaaGreat.one r) w w') (h:r2=r∨r2=w.heap.size):Mv (A++r::B) (A++r2::B) w w':=Mv.mk hx (fun k hk hm=>by
 simp only [List.mem_append,List.mem_cons,not_or] at hm ⊢
 exact ⟨⟨hm.1,by omega,hm.2.2⟩,hm.2.1⟩)
theorem Mv.inl {K:List Nat}(hx:Chg (ins K) w w') (hK:∀ b∈K,b∈M) (h2:∀ b∈M2,b∈M∨w.heap.size≤b):Mv M M2 w w':=Mv.mk hx (fun k hk hm =>
 ⟨fun h=>(h2 k h).elim hm (fun h=>by omega),fun h=>hm (hK k h)⟩)
theorem Mv.drop (A B:List Nat):Mv (A++r::B) (A++B) w w:=fun k _ hm=>⟨by
 simp only [List.mem_append,List.mem_cons,not_or] at hm ⊢
 exact ⟨hm.1,hm.2.2⟩,rfl⟩
theorem Mv.less (h:∀ b∈M',b∈M):Mv M M' w w:=fun k _ hm=>⟨fun h'=>hm (h k h'),rfl⟩
theorem Bb (h:OrB r r0 s) (hm:r0∈M):r∈M∨s≤r:=by
 rcases h with rfl | h
 ·exact .inl hm
 ·exact .inr h
theorem Dx {G:Nat→Prop}(hr:r∈M) (h:nin G M b):nin G M b∧b≠r:=⟨h,fun e=>h.2 (e▸hr)⟩
theorem BR {G:Nat→Prop}(hg:G b) (hn:∀ x∈M,Nb b x) (hr:Nb b r):nin G M b∧b≠r:=⟨⟨hg,fun h=>(hn b h).ne rfl⟩,hr.ne⟩
theorem BL {K:List Nat}(h1:∀ x∈K,Nb b x) (h2:b< s):¬ mtb K s b:=fun h=>h.elim (fun h=>(h1 b h).ne rfl) (fun h=>by omega)
section
variable {α:Type} [Rep α] {G:Nat→Prop} {o:Option Addr} {n c:Nat} {t:TypeId} {xs:List α}
theorem RepS.Af {F:Nat→Prop}{s':Nat}(h:RepS w (fo (nin (fo F s') M) s) o n c xs) (hM:∀ b∈M,b< s) (hs:s'≤s):RepS w (nin (fo F s') M) o n c xs :=
 h.mixed (fun b hb=>⟨hM b hb,hb⟩) hs
theorem Own.Af {F:Nat→Prop}{s':Nat}(h:Own w r t (fo (nin (fo F s') M) s) n c xs) (hM:∀ b∈M,b< s) (hs:s'≤s):Own w r t (nin (fo F s') M) n c xs :=
 h.CE fun b _ hF=>by
  rcases hF with hF | hF
  ·exact hF
  ·exact ⟨.inr (Nat.le_trans hs hF),fun hm=>by have:=hM b hm; omega⟩
theorem RepS.nS {K:List Nat}(h:RepS w (nin (ltG G s) M) o n c xs) (hn:0< n) (hL:∀ x∈K,x∈M):¬ mtb K s (blk o):=fun hk =>
 have hF:=h.inF hn
 hk.elim (fun hb=>hF.2 (hL _ hb)) (fun hb=>by have:=hF.1.2; omega)
theorem RepS.IQ {K:List Nat}(h:RepS w (nin (ltG G s) M) o n c xs) (hx:Chg (mtb K s) w w') (hL:∀ x∈K,x∈M):RepS w' all o n c xs :=
 (h.chg hx (fun b hF hk=>hk.elim (fun hb=>hF.2 (hL _ hb)) (fun hb=>by have:=hF.1.2; omega))).CE (fun _ _ _=>trivial)
theorem RepS.BO (h:RepS w (nin G M) o n c xs):RepS w (nin (ltG G w.heap.size) M) o n c xs:=h.CE (fun b hb hF=>⟨⟨hF.1,hb⟩,hF.2⟩)
theorem RepS.Aa (h:RepS w (nin (ltG G s) M) o n c xs):RepS w (nin G M) o n c xs:=h.base (fun _ _ h=>h.1)
end
end
section
variable {α:Type} [Rep α] {w:World} {G F:Nat→Prop} {M M' rs:List Nat} {o:Option Addr} {n c r s s0 s':Nat} {t:TypeId} {xs ys:List α}
theorem RepS.eqx (h:RepS w F o n c xs) (e:xs=ys):RepS w F o n c ys:=e▸h
theorem Own.eqx (h:Own w r t F n c xs) (e:xs=ys):Own w r t F n c ys:=e▸h
theorem RepS.Ap (h:RepS w (nin G M) o n c xs) (hs:∀ b∈M',b∈M):RepS w (nin G M') o n c xs:=h.CE fun k _ hk=>⟨hk.1,fun e=>hk.2 (hs k e)⟩
theorem Own.Ap (h:Own w r t (nin G M) n c xs) (hs:∀ b∈M',b∈M):Own w r t (nin G M') n c xs:=h.CE fun k _ hk=>⟨hk.1,fun e=>hk.2 (hs k e)⟩
theorem La {k:Nat}(h:nin (ge s) rs k) (hM:∀ b∈M,b< s) (hs:s0≤s):nin (ge s0) (rs++M) k:=⟨Nat.le_trans hs h.1,fun hm=>by
 rcases List.mem_append.1 hm with hm | hm
 ·exact h.2 hm
 ·have h1:=hM k hm
  have h2:s≤k:=h.1
  omega⟩
theorem RepS.Bc (h:RepS w (nin (ge s) rs) o n c xs) (hM:∀ b∈M,b< s) (hs:s0≤s):RepS w (nin (ge s0) (rs++M)) o n c xs:=h.CE fun _ _ hk=>La hk hM hs
theorem Own.Bc (h:Own w r t (nin (ge s) rs) n c xs) (hM:∀ b∈M,b< s) (hs:s0≤s):Own w r t (nin (ge s0) (rs++M)) n c xs:=h.CE fun _ _ hk=>La hk hM hs
end
end Go.Proofs.YtggnnidleedpaaaGreat
namespace Go.Proofs.YtggnnidleedpaaaGreat
section
variable {α:Type} [Rep α] {w:World} {F:Nat→Prop} {a:Option Addr} {n c l h:Nat} {xs:List α}
theorem RepS.sub (hr:RepS w F a n c xs) (hlh:l≤h) (hh:h≤n):RepS w F (if c=l then a else a.map (·.add (l * Rep.sz α))) (h - l) (c - l) ((xs.take h).drop l):=by
 have hlen:=hr.len
 have hle:=hr.le
 by_cases he:h=l
 ·subst he
  rw [Nat.sub_self,List.drop_of_length_le (by rw [List.length_take]; omega)]
  exact RepS.Aj _ _ _ _ (by have:=hr.cap; omega)
 ·have hcl:c≠l:=by omega
  rw [if_neg hcl]
  have ha:=hr.addr AB
  have hsome:(a.map (·.add (l * Rep.sz α)))=some ⟨blk a,off a+l * Rep.sz α,none⟩:=by
   rw [ha]
   simp [add_lit,blk,off]
  rw [hsome]
  refine ⟨by rw [List.length_drop,List.length_take]; omega,by omega,by have:=hr.cap; omega,fun _=>rfl,fun _=>hr.inF AB,fun i x hx=>?_⟩
  rw [List.getElem?_drop,List.getElem?_take] at hx
  split at hx
  ·obtain ⟨cs,h1,h2⟩:=hr.elem (l+i) x hx
   refine ⟨cs,h1,?_⟩
   have:off (some (⟨blk a,off a+l * Rep.sz α,none⟩:Addr))+i * Rep.sz α=off a+(l+i) * Rep.sz α:=by
    simp only [off,Nat.add_mul]
    omega
   rw [this]
   exact h2
  ·cases hx
end
section
variable {P:Program}
def IS (P:Program) (t:TypeId):Bool:=match P.underlying t with | some .string=>true | _=>false
theorem GC {t:TypeId}(h:IS P t=true):P.underlying t=some .string:=by
 unfold IS at h; split at h <;> simp_all
theorem Lb {t:TypeId}{s:Str}{k:IntKind}{i:Int}{x:UInt8}(i':Nat) (ht:IS P t=true) (hi:i=(i':Int)) (hx:s[i']? = some x) (w:World) :
 (Instr.index t (.string (bs s)) (.int k i)).run P w=.ok (.int .u8 (x.toNat:Int)) w:=by
 subst hi
 have hu:=GC ht
 have hs:(bs s)[i']? = some x:=by
  obtain ⟨h1,h2⟩:=List.getElem?_eq_some_iff.1 hx
  have h3:i'< (bs s).size:=by rw [GB]; exact h1
  rw [getElem?_pos (bs s) i' h3]
  congr 1
 unfold Instr.index
 have h1:(asIntOf (.int k (i':Int))).run P w=.ok (k,(i':Int)) w:=rfl
 rw [AZ h1]
 simp only []
 rw [AZ (show (underlying t).run P w=.ok .string w by simp [underlying,hu,go_sem])]
 simp [hs,go_sem]
theorem NP {t:TypeId}{x y:Operand}{s u:Str}(h:s.length+u.length≤9000000000000000000) (w:World) :
 (do eqGuard .add t x y (.string (bs s)) (.string (bs u)); binOp .add t (.string (bs s)) (.string (bs u))).run P w=.ok (.string (bs (s++u))) w:=by
 have h1:(eqGuard .add t x y (.string (bs s)) (.string (bs u))).run P w=.ok () w:=rfl
 rw [AZ h1]
 have hle:¬ (((bs s).size+(bs u).size:Nat):Int) > IntKind.i64.max:=by
  rw [GB,GB]
  have:IntKind.i64.max=9223372036854775807:=by decide
  rw [this]
  omega
 simp only [binOp,Op.stringOp,if_neg hle]
 rw [SZ]
 rfl
theorem NQ {k:IntKind}{t:TypeId}{x y:Operand}{a b:Int}(hb:b≠0) (w:World) :
 (do eqGuard .rem t x y (.int k a) (.int k b); binOp .rem t (.int k a) (.int k b)).run P w=.ok (.int k (a.tmod b)) w:=by
 have h1:(eqGuard .rem t x y (.int k a) (.int k b)).run P w=.ok () w:=rfl
 rw [AZ h1]
 simp [binOp,Op.intDiv,hb,go_sem]
theorem NR {t:TypeId}{x y:Operand}{a b:Int}(hb:b≠0) (hr:-9223372036854775808≤a.tdiv b∧a.tdiv b≤9223372036854775807) (w:World) :
 (do eqGuard .quo t x y (.int .i64 a) (.int .i64 b); binOp .quo t (.int .i64 a) (.int .i64 b)).run P w=.ok (.int .i64 (a.tdiv b)) w:=by
 have h1:(eqGuard .quo t x y (.int .i64 a) (.int .i64 b)).run P w=.ok () w:=rfl
 rw [AZ h1]
 simp [binOp,Op.intDiv,hb,go_sem,IntWalk.i64_in _ hr]
def bnd (o:Option Value) (d l:Nat):Prop:=o=none∧l=d∨∃ k i,o=some (.int k i)∧i=(l:Int)
theorem Dy {k:IntKind}{i:Int}{l y:Nat}{code:BoundsCode}(hi:i=(l:Int)) (hl:l≤y) (w:World):(Instr.sliceBound (.int k i) y code).run P w=.ok l w:=by
 subst hi
 unfold Instr.sliceBound
 have h1:(asIntOf (.int k (l:Int))).run P w=.ok (k,(l:Int)) w:=rfl
 rw [AZ h1]
 have h2:(0:Int)≤(l:Int)∧(l:Int)≤(y:Int):=by omega
 simp only [h2,and_self,if_true]
 simp [go_sem]
theorem JB {b:Bool}{len cap l h:Nat}{lo hi:Option Value}(hlo:bnd lo 0 l) (hhi:bnd hi len h) (hlh:l≤h) (hh:h≤cap) (w:World) :
 (Instr.sliceBounds b len cap lo hi none).run P w=.ok (l,h,cap) w:=by
 unfold Instr.sliceBounds
 rcases hlo with ⟨rfl,rfl⟩ | ⟨k,i,rfl,hi1⟩ <;> rcases hhi with ⟨rfl,rfl⟩ | ⟨k2,i2,rfl,hi2⟩
 ·simp [go_sem]
 ·simp only [pure_bind]
  rw [AZ (Dy hi2 hh w)]
  simp [go_sem]
 ·simp only [pure_bind]
  rw [AZ (Dy hi1 hlh w)]
  simp [go_sem]
 ·simp only [pure_bind]
  rw [AZ (Dy hi2 hh w),AZ (Dy hi1 hlh w)]
  simp [go_sem]
theorem Lc {t:TypeId}{s:Str}{l h:Nat}{lo hi:Option Value}(ht:IS P t=true) (hlo:bnd lo 0 l) (hhi:bnd hi s.length h) (hlh:l≤h) (hh:h≤s.length) (w:World) :
 (Instr.sliceAt t (.string (bs s)) lo hi none).run P w=.ok (.string (bs ((s.take h).drop l))) w:=by
 have hu:=GC ht
 have hun:(underlying t).run P w=.ok .string w:=by simp [underlying,hu,go_sem]
 unfold Instr.sliceAt
 rw [AZ hun]
 unfold Instr.slice
 rw [AZ hun]
 have hb:=JB (P:=P) (b:=false) hlo (len:=(bs s).size) (cap:=(bs s).size) (by rw [GB]; exact hhi) hlh (by rw [GB]; exact hh) w
 simp only [Option.isSome_none,Bool.false_eq_true,if_false,pure_bind]
 rw [AZ hb]
 have hx:(bs s).extract l h=bs ((s.take h).drop l):=by
  apply ByteArray.ext
  simp [bs,ByteArray.data_extract]
  exact List.drop_take.symm
 simp only []
 rw [hx]
 rfl
def Jo (P:Program) (t:TypeId) (sz:Nat):Bool:=match P.underlying t with | some (.slice e)=>(match P.info? e with | some i=>Nat.beq i.size sz | none=>false) | _=>false
theorem GD {t:TypeId}{sz:Nat}{a:Option Addr}{len cap l h:Nat}{lo hi:Option Value}(ht:Jo P t sz=true) (hlo:bnd lo 0 l) (hhi:bnd hi len h) (hlh:l≤h) (hh:h≤cap) (w:World) :
 (Instr.sliceAt t (.slice a len cap) lo hi none).run P w=.ok (.slice (if cap=l then a else a.map (·.add (l * sz))) (h - l) (cap - l)) w:=by
 unfold Jo at ht
 split at ht
 ·rename_i e hu
  split at ht
  ·rename_i i hi'
   have hsz:=Nat.eq_of_beq_eq_true ht
   have hun:(underlying t).run P w=.ok (.slice e) w:=by simp [underlying,hu,go_sem]
   unfold Instr.sliceAt
   rw [AZ hun]
   simp only []
   unfold Instr.slice
   rw [AZ hun]
   simp only []
   rw [AZ (JB (P:=P) (b:=true) hlo hhi hlh hh w)]
   simp only []
   rw [AZ (show (sizeOf e).run P w=.ok i.size w by simp [sizeOf,typeInfo,hi',go_sem])]
   rw [hsz]
   rfl
  ·cases ht
 ·cases ht
def Jp (P:Program) (t:TypeId):Bool :=
 (match P.underlying t with
  | some (.struct fs) => (match fs.toList with
    | [f,g]=>f.name != "_" && g.name != "_" && IS P f.type&&IS P g.type&&Nat.beq f.offset 0&&Nat.beq g.offset 1
    | _=>false)
  | _=>false) && !P.stoodInHeld t && !P.eqGuardType P.depth t
theorem GY {d:Nat}{t:TypeId}{s u:Str}(ht:IS P t=true) (w:World):(Op.equalIn (d+1) t (.string (bs s)) (.string (bs u))).run P w=.ok (s==u) w:=by
 have hu:=GC ht
 have hun:(underlying t).run P w=.ok .string w:=by simp [underlying,hu,go_sem]
 unfold Op.equalIn
 rw [AZ hun]
 simp only []
 rw [Sb]
 rfl
theorem EM {t:TypeId}{cs:Array Value}{o:Nat}{v:Value}(ht:IS P t=true) (hv:cs[o]? = some v) (w:World):(part t cs o).run P w=.ok v w:=by
 have hu:=GC ht
 have hsc:Cj P t=true:=by unfold Cj; rw [hu]
 unfold part
 rw [AZ (DL hsc w)]
 simp [hv,go_sem]
theorem FG {t:TypeId}{op:BinOp}{x y:Operand}{cs cs':Array Value}(ht:(!P.eqGuardType P.depth t)=true) (w:World):(eqGuard op t x y (.agg cs) (.agg cs')).run P w=.ok () w:=by
 simp only [Bool.not_eq_true'] at ht
 unfold eqGuard
 cases op <;> simp [ht,go_sem,run_program]
theorem GZ {t:TypeId}{k v k' v':Str}(ht:Jp P t=true) (w:World) :
 (Op.equal t (.agg #[.string (bs k),.string (bs v)]) (.agg #[.string (bs k'),.string (bs v')])).run P w=.ok (k==k'&&v==v') w:=by
 unfold Jp at ht
 simp only [AW,Bool.not_eq_true'] at ht
 obtain ⟨⟨h1,h2⟩,h3⟩:=ht
 split at h1
 ·rename_i fs hu
  split at h1
  ·rename_i f g hfg
   simp only [AW] at h1
   obtain ⟨⟨⟨⟨⟨a1,a2⟩,a3⟩,a4⟩,a5⟩,a6⟩:=h1
   have a5':=Nat.eq_of_beq_eq_true a5
   have a6':=Nat.eq_of_beq_eq_true a6
   have hun:(underlying t).run P w=.ok (.struct fs) w:=by simp [underlying,hu,go_sem]
   have hfs:fs = #[f,g]:=Array.toList_inj.1 (by simpa using hfg)
   subst hfs
   unfold Op.equal
   rw [show Op.maxDepth=9999+1 from rfl]
   unfold Op.equalIn
   rw [AZ hun]
   simp only []
   have hp:(program:Sem Program).run P w=.ok P w:=run_program P w
   rw [AZ hp]
   simp only [h2,Bool.false_eq_true,if_false]
   have e1:=fun (w:World)=>EM (P:=P) (t:=f.type) (cs:=#[.string (bs k),.string (bs v)]) (o:=f.offset) (v:=.string (bs k)) a3 (by rw [a5']; rfl) w
   have e2:=fun (w:World)=>EM (P:=P) (t:=f.type) (cs:=#[.string (bs k'),.string (bs v')]) (o:=f.offset) (v:=.string (bs k')) a3 (by rw [a5']; rfl) w
   have e3:=fun (w:World)=>EM (P:=P) (t:=g.type) (cs:=#[.string (bs k),.string (bs v)]) (o:=g.offset) (v:=.string (bs v)) a4 (by rw [a6']; rfl) w
   have e4:=fun (w:World)=>EM (P:=P) (t:=g.type) (cs:=#[.string (bs k'),.string (bs v')]) (o:=g.offset) (v:=.string (bs v')) a4 (by rw [a6']; rfl) w
   have e5:=GY (P:=P) (d:=9998) (t:=f.type) (s:=k) (u:=k') a3
   have e6:=GY (P:=P) (d:=9998) (t:=g.type) (s:=v) (u:=v') a4
   have c1:(f.name ≠ "_")=True:=by simpa using a1
   have c2:(g.name ≠ "_")=True:=by simpa using a2
   simp only [List.forIn_toArray,Array.forIn_toList,List.forIn_cons,List.forIn_nil,c1,c2,if_true,bind_assoc]
   rw [AZ (e1 w),AZ (e2 w),AZ (e5 w)]
   cases hk:(k==k') with
   | false=>simp [go_sem]
   | true =>
     simp only [Bool.not_true,Bool.false_eq_true,if_false,pure_bind,bind_assoc]
     rw [AZ (e3 w),AZ (e4 w),AZ (e6 w)]
     cases hv:(v==v') <;> simp [go_sem]
  ·cases h1
 ·cases h1
def Ma (P:Program) (t:TypeId):Bool:=match P.underlying t with | some (.int _)=>true | _=>false
def Ks (P:Program) (t:TypeId):Bool :=
 (match P.underlying t with
  | some (.struct fs) => (match fs.toList with
    | [f,g]=>f.name != "_" && g.name != "_" && Ma P f.type&&Ma P g.type&&Nat.beq f.offset 0&&Nat.beq g.offset 1
    | _=>false)
  | _=>false) && !P.stoodInHeld t && !P.eqGuardType P.depth t
theorem Ep {d:Nat}{t:TypeId}{s u:Int}(ht:Ma P t=true) (w:World):(Op.equalIn (d+1) t (.int .i64 s) (.int .i64 u)).run P w=.ok (s==u) w:=by
 unfold Ma at ht
 split at ht
 ·rename_i k hu
  have hun:(underlying t).run P w=.ok (.int k) w:=by simp [underlying,hu,go_sem]
  unfold Op.equalIn
  rw [AZ hun]
  simp [go_sem]
 ·cases ht
theorem C8 {t:TypeId}{cs:Array Value}{o:Nat}{v:Value}(ht:Ma P t=true) (hv:cs[o]? = some v) (w:World):(part t cs o).run P w=.ok v w:=by
 unfold Ma at ht
 split at ht
 ·rename_i k hu
  have hsc:Cj P t=true:=by unfold Cj; rw [hu]
  unfold part
  rw [AZ (DL hsc w)]
  simp [hv,go_sem]
 ·cases ht
theorem FT {d:Nat}{t:TypeId}{k v k' v':Int}(ht:Ks P t=true) (w:World) :
 (Op.equalIn (d+2) t (.agg #[.int .i64 k,.int .i64 v]) (.agg #[.int .i64 k',.int .i64 v'])).run P w=.ok (k==k'&&v==v') w:=by
 unfold Ks at ht
 simp only [AW,Bool.not_eq_true'] at ht
 obtain ⟨⟨h1,h2⟩,h3⟩:=ht
 split at h1
 ·rename_i fs hu
  split at h1
  ·rename_i f g hfg
   simp only [AW] at h1
   obtain ⟨⟨⟨⟨⟨a1,a2⟩,a3⟩,a4⟩,a5⟩,a6⟩:=h1
   have a5':=Nat.eq_of_beq_eq_true a5
   have a6':=Nat.eq_of_beq_eq_true a6
   have hun:(underlying t).run P w=.ok (.struct fs) w:=by simp [underlying,hu,go_sem]
   have hfs:fs = #[f,g]:=Array.toList_inj.1 (by simpa using hfg)
   subst hfs
   unfold Op.equalIn
   rw [AZ hun]
   simp only []
   have hp:(program:Sem Program).run P w=.ok P w:=run_program P w
   rw [AZ hp]
   simp only [h2,Bool.false_eq_true,if_false]
   have e1:=fun (w:World)=>C8 (P:=P) (t:=f.type) (cs:=#[.int .i64 k,.int .i64 v]) (o:=f.offset) (v:=.int .i64 k) a3 (by rw [a5']; rfl) w
   have e2:=fun (w:World)=>C8 (P:=P) (t:=f.type) (cs:=#[.int .i64 k',.int .i64 v']) (o:=f.offset) (v:=.int .i64 k') a3 (by rw [a5']; rfl) w
   have e3:=fun (w:World)=>C8 (P:=P) (t:=g.type) (cs:=#[.int .i64 k,.int .i64 v]) (o:=g.offset) (v:=.int .i64 v) a4 (by rw [a6']; rfl) w
   have e4:=fun (w:World)=>C8 (P:=P) (t:=g.type) (cs:=#[.int .i64 k',.int .i64 v']) (o:=g.offset) (v:=.int .i64 v') a4 (by rw [a6']; rfl) w
   have e5:=Ep (P:=P) (d:=d) (t:=f.type) (s:=k) (u:=k') a3
   have e6:=Ep (P:=P) (d:=d) (t:=g.type) (s:=v) (u:=v') a4
   have c1:(f.name ≠ "_")=True:=by simpa using a1
   have c2:(g.name ≠ "_")=True:=by simpa using a2
   simp only [List.forIn_toArray,Array.forIn_toList,List.forIn_cons,List.forIn_nil,c1,c2,if_true,bind_assoc]
   rw [AZ (e1 w),AZ (e2 w),AZ (e5 w)]
   cases hk:(k==k') with
   | false=>simp [go_sem]
   | true =>
     simp only [Bool.not_true,Bool.false_eq_true,if_false,pure_bind,bind_assoc]
     rw [AZ (e3 w),AZ (e4 w),AZ (e6 w)]
     cases hv:(v==v') <;> simp [go_sem]
  ·cases h1
 ·cases h1
theorem Jq {t:TypeId}{k v k' v':Int}(ht:Ks P t=true) (w:World) :
 (Op.equal t (.agg #[.int .i64 k,.int .i64 v]) (.agg #[.int .i64 k',.int .i64 v'])).run P w=.ok (k==k'&&v==v') w:=FT (d:=9998) ht w
def Mb (P:Program) (t:TypeId):Bool :=
 (match P.underlying t with
  | some (.struct fs) => (match fs.toList with
    | [f,g]=>f.name != "_" && g.name != "_" && Ma P f.type&&Ks P g.type&&Fg P g.type 2&&Nat.beq f.offset 0&&Nat.beq g.offset 1
    | _=>false)
  | _=>false) && !P.stoodInHeld t && !P.eqGuardType P.depth t
theorem G4 {t:TypeId}{cs:Array Value}{o n:Nat}(ht:Fg P t n=true) (w:World):(part t cs o).run P w=.ok (.agg (cs.extract o (o+n))) w:=by
 simp only [Fg,AW] at ht
 unfold part
 have h1:(isAgg t).run P w=.ok true w:=by
  unfold isAgg underlying
  have:=ht.1
  split at this
  ·rename_i d hd; simp [run_program,hd,go_sem]
  ·rename_i d hd; simp [run_program,hd,go_sem]
  ·cases this
 rw [AZ h1]
 simp only [if_true]
 rw [AZ (run_sizeOf (n:=n) ht.2 w)]
 rfl
theorem Jr {t:TypeId}{i k v i' k' v':Int}(ht:Mb P t=true) (w:World) :
 (Op.equal t (.agg #[.int .i64 i,.int .i64 k,.int .i64 v]) (.agg #[.int .i64 i',.int .i64 k',.int .i64 v'])).run P w=.ok (i==i'&&(k==k'&&v==v')) w:=by
 unfold Mb at ht
 simp only [AW,Bool.not_eq_true'] at ht
 obtain ⟨⟨h1,h2⟩,h3⟩:=ht
 split at h1
 ·rename_i fs hu
  split at h1
  ·rename_i f g hfg
   simp only [AW] at h1
   obtain ⟨⟨⟨⟨⟨⟨a1,a2⟩,a3⟩,a4⟩,a7⟩,a5⟩,a6⟩:=h1
   have a5':=Nat.eq_of_beq_eq_true a5
   have a6':=Nat.eq_of_beq_eq_true a6
   have hun:(underlying t).run P w=.ok (.struct fs) w:=by simp [underlying,hu,go_sem]
   have hfs:fs = #[f,g]:=Array.toList_inj.1 (by simpa using hfg)
   subst hfs
   unfold Op.equal
   rw [show Op.maxDepth=9999+1 from rfl]
   unfold Op.equalIn
   rw [AZ hun]
   simp only []
   have hp:(program:Sem Program).run P w=.ok P w:=run_program P w
   rw [AZ hp]
   simp only [h2,Bool.false_eq_true,if_false]
   have e1:=fun (w:World)=>C8 (P:=P) (t:=f.type) (cs:=#[.int .i64 i,.int .i64 k,.int .i64 v]) (o:=f.offset) (v:=.int .i64 i) a3 (by rw [a5']; rfl) w
   have e2:=fun (w:World)=>C8 (P:=P) (t:=f.type) (cs:=#[.int .i64 i',.int .i64 k',.int .i64 v']) (o:=f.offset) (v:=.int .i64 i') a3 (by rw [a5']; rfl) w
   have e3:=fun (w:World)=>G4 (P:=P) (t:=g.type) (cs:=#[.int .i64 i,.int .i64 k,.int .i64 v]) (o:=g.offset) (n:=2) a7 w
   have e4:=fun (w:World)=>G4 (P:=P) (t:=g.type) (cs:=#[.int .i64 i',.int .i64 k',.int .i64 v']) (o:=g.offset) (n:=2) a7 w
   have x1:(#[.int .i64 i,.int .i64 k,.int .i64 v]:Array Value).extract g.offset (g.offset+2) = #[.int .i64 k,.int .i64 v]:=by rw [a6']; rfl
   have x2:(#[.int .i64 i',.int .i64 k',.int .i64 v']:Array Value).extract g.offset (g.offset+2) = #[.int .i64 k',.int .i64 v']:=by rw [a6']; rfl
   simp only [x1] at e3
   simp only [x2] at e4
   have e5:=Ep (P:=P) (d:=9998) (t:=f.type) (s:=i) (u:=i') a3
   have e6:=FT (P:=P) (d:=9997) (t:=g.type) (k:=k) (v:=v) (k':=k') (v':=v') a4
   have c1:(f.name ≠ "_")=True:=by simpa using a1
   have c2:(g.name ≠ "_")=True:=by simpa using a2
   simp only [List.forIn_toArray,Array.forIn_toList,List.forIn_cons,List.forIn_nil,c1,c2,if_true,bind_assoc]
   rw [AZ (e1 w),AZ (e2 w),AZ (e5 w)]
   cases hk:(i==i') with
   | false=>simp [go_sem]
   | true =>
     simp only [Bool.not_true,Bool.false_eq_true,if_false,pure_bind,bind_assoc]
     rw [AZ (e3 w),AZ (e4 w),AZ (e6 w)]
     cases hv:(k==k'&&v==v') <;> simp [go_sem]
  ·cases h1
 ·cases h1
theorem Sc {t:TypeId}(h:Mb P t=true):(!P.eqGuardType P.depth t)=true:=by unfold Mb at h; simp only [AW] at h; exact h.2
theorem J7 {t:TypeId}{x y:Operand}{i k v i' k' v':Int}(ht:Mb P t=true) (w:World) :
 (do eqGuard .neq t x y (.agg #[.int .i64 i,.int .i64 k,.int .i64 v]) (.agg #[.int .i64 i',.int .i64 k',.int .i64 v']); binOp .neq t (.agg #[.int .i64 i,.int .i64 k,.int .i64 v]) (.agg #[.int .i64 i',.int .i64 k',.int .i64 v'])).run P w
  = .ok (.bool (!(i==i'&&(k==k'&&v==v')))) w:=by
 rw [AZ (FG (Sc ht) w)]
 simp only [binOp]
 rw [AZ (Jr ht w)]
 rfl
theorem NS (x y:Smp):(x==y)=(x.id==y.id&&(x.row.t==y.row.t&&x.row.v==y.row.v)):=by
 rw [Bool.eq_iff_iff]
 simp only [beq_iff_eq,AW]
 constructor
 ·rintro rfl; exact ⟨rfl,rfl,rfl⟩
 ·rintro ⟨h1,h2,h3⟩
  cases x with | mk i r=>cases y with | mk i' r'=>cases r; cases r'; simp_all
theorem O2 {t:TypeId}(h:Jp P t=true):(!P.eqGuardType P.depth t)=true:=by unfold Jp at h; simp only [AW] at h; exact h.2
theorem Sd {t:TypeId}(h:Ks P t=true):(!P.eqGuardType P.depth t)=true:=by unfold Ks at h; simp only [AW] at h; exact h.2
theorem J8 {t:TypeId}{x y:Operand}{k v k' v':Str}(ht:Jp P t=true) (w:World) :
 (do eqGuard .eql t x y (.agg #[.string (bs k),.string (bs v)]) (.agg #[.string (bs k'),.string (bs v')]); binOp .eql t (.agg #[.string (bs k),.string (bs v)]) (.agg #[.string (bs k'),.string (bs v')])).run P w
  = .ok (.bool (k==k'&&v==v')) w:=by
 rw [AZ (FG (O2 ht) w)]
 simp only [binOp]
 rw [AZ (GZ ht w)]
 rfl
theorem J9 {t:TypeId}{x y:Operand}{k v k' v':Str}(ht:Jp P t=true) (w:World) :
 (do eqGuard .neq t x y (.agg #[.string (bs k),.string (bs v)]) (.agg #[.string (bs k'),.string (bs v')]); binOp .neq t (.agg #[.string (bs k),.string (bs v)]) (.agg #[.string (bs k'),.string (bs v')])).run P w
  = .ok (.bool (!(k==k'&&v==v'))) w:=by
 rw [AZ (FG (O2 ht) w)]
 simp only [binOp]
 rw [AZ (GZ ht w)]
 rfl
theorem KA {t:TypeId}{x y:Operand}{k v k' v':Int}(ht:Ks P t=true) (w:World) :
 (do eqGuard .neq t x y (.agg #[.int .i64 k,.int .i64 v]) (.agg #[.int .i64 k',.int .i64 v']); binOp .neq t (.agg #[.int .i64 k,.int .i64 v]) (.agg #[.int .i64 k',.int .i64 v'])).run P w
  = .ok (.bool (!(k==k'&&v==v'))) w:=by
 rw [AZ (FG (Sd ht) w)]
 simp only [binOp]
 rw [AZ (Jq ht w)]
 rfl
theorem NT (x y:Row):(x==y)=(x.t==y.t&&x.v==y.v):=by
 rw [Bool.eq_iff_iff]
 simp only [beq_iff_eq,AW]
 constructor
 ·rintro rfl; exact ⟨rfl,rfl⟩
 ·rintro ⟨h1,h2⟩; cases x; cases y; simp_all
theorem Ir (x y:Tag):(x==y)=(x.key==y.key&&x.val==y.val):=by
 rw [Bool.eq_iff_iff]
 simp only [beq_iff_eq,AW]
 constructor
 ·rintro rfl; exact ⟨rfl,rfl⟩
 ·rintro ⟨h1,h2⟩; cases x; cases y; simp_all
def EH (n:Nat) (ops:Array Oper) (j:Nat) (e:Env):Option (BinOp × TypeId × Value × Value) :=
 bif CT n ops j e then
  match (Aq ops j).op with
  | .binOp op t x y _=>some (op,t,ev e x,ev e y)
  | _=>none
 else none
def Mc (n:Nat) (ops:Array Oper) (j:Nat) (e:Env):Option (TypeId × Value × Value) :=
 bif CT n ops j e then
  match (Aq ops j).op with
  | .index t x y=>some (t,ev e x,ev e y)
  | _=>none
 else none
def G5 (n:Nat) (ops:Array Oper) (j:Nat) (e:Env):Option (TypeId × Value × Option Value × Option Value) :=
 bif CT n ops j e then
  match (Aq ops j).op with
  | .slice t x lo hi none=>some (t,ev e x,lo.map (ev e),hi.map (ev e))
  | _=>none
 else none
theorem Cp {n:Nat}{ops:Array Oper}{j:Nat}{e:Env}{op:BinOp}{t:TypeId}{a b v:Value}{w:World}(h:EH n ops j e=some (op,t,a,b))
 (hr:∀ x y,(do eqGuard op t x y a b; binOp op t a b).run P w=.ok v w):CT n ops j e=true∧(execOp (ev e) (Aq ops j)).run P w=.ok (.value v) w:=by
 obtain ⟨hg,h⟩:=CR h
 refine ⟨hg,?_⟩
 split at h
 ·rename_i op' t' x y z hop
  simp only [Option.some.injEq,Prod.mk.injEq] at h
  obtain ⟨rfl,rfl,rfl,rfl⟩:=h
  simp only [execOp,hop]
  exact AZ (hr x y)
 ·cases h
theorem JC {n:Nat}{ops:Array Oper}{j:Nat}{e:Env}{t:TypeId}{a b v:Value}{w:World}(h:Mc n ops j e=some (t,a,b))
 (hr:(Instr.index t a b).run P w=.ok v w):CT n ops j e=true∧(execOp (ev e) (Aq ops j)).run P w=.ok (.value v) w:=by
 obtain ⟨hg,h⟩:=CR h
 refine ⟨hg,?_⟩
 split at h
 ·rename_i t' x y hop
  simp only [Option.some.injEq,Prod.mk.injEq] at h
  obtain ⟨rfl,rfl,rfl⟩:=h
  simp only [execOp,hop]
  exact AZ hr
 ·cases h
theorem DU {n:Nat}{ops:Array Oper}{j:Nat}{e:Env}{t:TypeId}{a v:Value}{lo hi:Option Value}{w:World}(h:G5 n ops j e=some (t,a,lo,hi))
 (hr:(Instr.sliceAt t a lo hi none).run P w=.ok v w):CT n ops j e=true∧(execOp (ev e) (Aq ops j)).run P w=.ok (.value v) w:=by
 obtain ⟨hg,h⟩:=CR h
 refine ⟨hg,?_⟩
 split at h
 ·rename_i t' x lo' hi' hop
  simp only [Option.some.injEq,Prod.mk.injEq] at h
  obtain ⟨rfl,rfl,rfl,rfl⟩:=h
  simp only [execOp,hop]
  exact AZ hr
 ·cases h
end
section
variable {P:Program} {n:Nat} {K:Env→World→Prop} {ops:Array Oper} {j:Nat} {e:Env} {w:World}
theorem RG.cat {t:TypeId}{s u:Str}(h:EH n ops j e=some (.add,t,.string (bs s),.string (bs u))) (hl:s.length+u.length≤9000000000000000000)
 (H:RG P n K ops (j+1) (BN e (Aq ops j).dst (.string (bs (s++u)))) w):RG P n K ops j e w :=
 have h1:=Cp (P:=P) (w:=w) h (fun _ _=>NP hl w)
 RG.val h1.1 h1.2 H
theorem RG.NU {t:TypeId}{x y:Tag}(h:EH n ops j e=some (.eql,t,.agg #[.string (bs x.key),.string (bs x.val)],.agg #[.string (bs y.key),.string (bs y.val)])) (ht:Jp P t=true)
 (H:RG P n K ops (j+1) (BN e (Aq ops j).dst (.bool (x==y))) w):RG P n K ops j e w :=
 have h1:=Cp (P:=P) (w:=w) h (fun _ _=>J8 ht w)
 RG.val h1.1 (by rw [Ir]; exact h1.2) H
theorem RG.NV {t:TypeId}{x y:Tag}(h:EH n ops j e=some (.neq,t,.agg #[.string (bs x.key),.string (bs x.val)],.agg #[.string (bs y.key),.string (bs y.val)])) (ht:Jp P t=true)
 (H:RG P n K ops (j+1) (BN e (Aq ops j).dst (.bool (!(x==y)))) w):RG P n K ops j e w :=
 have h1:=Cp (P:=P) (w:=w) h (fun _ _=>J9 ht w)
 RG.val h1.1 (by rw [Ir]; exact h1.2) H
theorem RG.O3 {t:TypeId}{x y:Row}(h:EH n ops j e=some (.neq,t,.agg #[.int .i64 x.t,.int .i64 x.v],.agg #[.int .i64 y.t,.int .i64 y.v])) (ht:Ks P t=true)
 (H:RG P n K ops (j+1) (BN e (Aq ops j).dst (.bool (!(x==y)))) w):RG P n K ops j e w :=
 have h1:=Cp (P:=P) (w:=w) h (fun _ _=>KA ht w)
 RG.val h1.1 (by rw [NT]; exact h1.2) H
theorem RG.R5 {t:TypeId}{x y:Smp}(h:EH n ops j e=some (.neq,t,.agg #[.int .i64 x.id,.int .i64 x.row.t,.int .i64 x.row.v],.agg #[.int .i64 y.id,.int .i64 y.row.t,.int .i64 y.row.v])) (ht:Mb P t=true)
 (H:RG P n K ops (j+1) (BN e (Aq ops j).dst (.bool (!(x==y)))) w):RG P n K ops j e w :=
 have h1:=Cp (P:=P) (w:=w) h (fun _ _=>J7 ht w)
 RG.val h1.1 (by rw [NS]; exact h1.2) H
theorem RG.rem {t:TypeId}{k:IntKind}{a b:Int}(h:EH n ops j e=some (.rem,t,.int k a,.int k b)) (hb:b≠0)
 (H:RG P n K ops (j+1) (BN e (Aq ops j).dst (.int k (a.tmod b))) w):RG P n K ops j e w :=
 have h1:=Cp (P:=P) (w:=w) h (fun _ _=>NQ hb w)
 RG.val h1.1 h1.2 H
theorem RG.quo {t:TypeId}{a b:Int}(h:EH n ops j e=some (.quo,t,.int .i64 a,.int .i64 b)) (hb:b≠0) (hr:-9223372036854775808≤a.tdiv b∧a.tdiv b≤9223372036854775807)
 (H:RG P n K ops (j+1) (BN e (Aq ops j).dst (.int .i64 (a.tdiv b))) w):RG P n K ops j e w :=
 have h1:=Cp (P:=P) (w:=w) h (fun _ _=>NR hb hr w)
 RG.val h1.1 h1.2 H
theorem RG.Kt {t:TypeId}{s:Str}{k:IntKind}{i:Int}{x:UInt8}(i':Nat) (h:Mc n ops j e=some (t,.string (bs s),.int k i)) (ht:IS P t=true) (hi:i=(i':Int)) (hx:s[i']? = some x)
 (H:RG P n K ops (j+1) (BN e (Aq ops j).dst (.int .u8 (x.toNat:Int))) w):RG P n K ops j e w :=
 have h1:=JC h (Lb i' ht hi hx w)
 RG.val h1.1 h1.2 H
theorem RG.Ku {t:TypeId}{s:Str}{lo hi:Option Value}(l h':Nat) (h:G5 n ops j e=some (t,.string (bs s),lo,hi)) (ht:IS P t=true) (hlo:bnd lo 0 l) (hhi:bnd hi s.length h') (hlh:l≤h') (hh:h'≤s.length)
 (H:RG P n K ops (j+1) (BN e (Aq ops j).dst (.string (bs ((s.take h').drop l)))) w):RG P n K ops j e w :=
 have h1:=DU h (Lc ht hlo hhi hlh hh w)
 RG.val h1.1 h1.2 H
theorem RG.sub {α:Type}[Rep α] {F:Nat→Prop}{xs:List α}{t:TypeId}{a:Option Addr}{len cap:Nat}{lo hi:Option Value}(hr:RepS w F a len cap xs) (l h':Nat) (h:G5 n ops j e=some (t,.slice a len cap,lo,hi)) (ht:Jo P t (Rep.sz α)=true) (hlo:bnd lo 0 l) (hhi:bnd hi len h') (hlh:l≤h') (hh:h'≤len)
 (H:∀ a' c',RepS w F a' (h' - l) c' ((xs.take h').drop l)→RG P n K ops (j+1) (BN e (Aq ops j).dst (.slice a' (h' - l) c')) w):RG P n K ops j e w :=
 have h1:=DU h (GD ht hlo hhi hlh (Nat.le_trans hh hr.le) w)
 RG.val h1.1 h1.2 (H _ _ (hr.sub hlh hh))
end
section
variable {P:Program} {S:Nat→Prop} {n m:Nat} {L:Env→World→Prop} {ops:Array Oper} {l:List Nat} {e:Env} {w:World}
def gB (n m:Nat) (ops:Array Oper) (l:List Nat) (i:Nat):Bool:=DG n m ops l i&&Eh ops l i
theorem GA.IT {i:Nat}{v:Value}(hb:gB n m ops l i=true) (hy:∀ w1:World,CT n ops i e=true∧(execOp (ev e) (Aq ops i)).run P w1=.ok (.value v) w1) (H:GA P S n m L ops (i::l) (BN e (Aq ops i).dst v) w):GA P S n m L ops l e w :=
 GA.det (by unfold gB at hb; rw [hb,(hy w).1]; rfl) (fun w1 _=>(hy w1).2) H
theorem GA.sub {α:Type}[Rep α] {F:Nat→Prop}{xs:List α}{i:Nat}{t:TypeId}{a:Option Addr}{len cap:Nat}{lo hi:Option Value}(hb:gB n m ops l i=true) (hr:RepS w F a len cap xs) (l' h':Nat) (h:G5 n ops i e=some (t,.slice a len cap,lo,hi)) (ht:Jo P t (Rep.sz α)=true) (hlo:bnd lo 0 l') (hhi:bnd hi len h') (hlh:l'≤h') (hh:h'≤len)
 (H:∀ a' c',RepS w F a' (h' - l') c' ((xs.take h').drop l')→GA P S n m L ops (i::l) (BN e (Aq ops i).dst (.slice a' (h' - l') c')) w):GA P S n m L ops l e w :=
 GA.IT hb (fun w=>DU h (GD ht hlo hhi hlh (Nat.le_trans hh hr.le) w)) (H _ _ (hr.sub hlh hh))
theorem GA.cat {i:Nat}{t:TypeId}{s u:Str}(hb:gB n m ops l i=true) (h:EH n ops i e=some (.add,t,.string (bs s),.string (bs u))) (hl:s.length+u.length≤9000000000000000000)
 (H:GA P S n m L ops (i::l) (BN e (Aq ops i).dst (.string (bs (s++u)))) w):GA P S n m L ops l e w :=
 GA.IT hb (fun w=>Cp h (fun _ _=>NP hl w)) H
theorem GA.NU {i:Nat}{t:TypeId}{x y:Tag}(hb:gB n m ops l i=true) (h:EH n ops i e=some (.eql,t,.agg #[.string (bs x.key),.string (bs x.val)],.agg #[.string (bs y.key),.string (bs y.val)])) (ht:Jp P t=true)
 (H:GA P S n m L ops (i::l) (BN e (Aq ops i).dst (.bool (x==y))) w):GA P S n m L ops l e w :=
 GA.IT hb (fun w=>by rw [Ir]; exact Cp h (fun _ _=>J8 ht w)) H
theorem GA.NV {i:Nat}{t:TypeId}{x y:Tag}(hb:gB n m ops l i=true) (h:EH n ops i e=some (.neq,t,.agg #[.string (bs x.key),.string (bs x.val)],.agg #[.string (bs y.key),.string (bs y.val)])) (ht:Jp P t=true)
 (H:GA P S n m L ops (i::l) (BN e (Aq ops i).dst (.bool (!(x==y)))) w):GA P S n m L ops l e w :=
 GA.IT hb (fun w=>by rw [Ir]; exact Cp h (fun _ _=>J9 ht w)) H
theorem GA.O3 {i:Nat}{t:TypeId}{x y:Row}(hb:gB n m ops l i=true) (h:EH n ops i e=some (.neq,t,.agg #[.int .i64 x.t,.int .i64 x.v],.agg #[.int .i64 y.t,.int .i64 y.v])) (ht:Ks P t=true)
 (H:GA P S n m L ops (i::l) (BN e (Aq ops i).dst (.bool (!(x==y)))) w):GA P S n m L ops l e w :=
 GA.IT hb (fun w=>by rw [NT]; exact Cp h (fun _ _=>KA ht w)) H
theorem GA.R5 {i:Nat}{t:TypeId}{x y:Smp}(hb:gB n m ops l i=true) (h:EH n ops i e=some (.neq,t,.agg #[.int .i64 x.id,.int .i64 x.row.t,.int .i64 x.row.v],.agg #[.int .i64 y.id,.int .i64 y.row.t,.int .i64 y.row.v])) (ht:Mb P t=true)
 (H:GA P S n m L ops (i::l) (BN e (Aq ops i).dst (.bool (!(x==y)))) w):GA P S n m L ops l e w :=
 GA.IT hb (fun w=>by rw [NS]; exact Cp h (fun _ _=>J7 ht w)) H
theorem GA.rem {i:Nat}{t:TypeId}{k:IntKind}{a b:Int}(hb:gB n m ops l i=true) (h:EH n ops i e=some (.rem,t,.int k a,.int k b)) (hb0:b≠0)
 (H:GA P S n m L ops (i::l) (BN e (Aq ops i).dst (.int k (a.tmod b))) w):GA P S n m L ops l e w :=
 GA.IT hb (fun w=>Cp h (fun _ _=>NQ hb0 w)) H
theorem GA.Kt {i:Nat}{t:TypeId}{s:Str}{k:IntKind}{z:Int}{x:UInt8}(hb:gB n m ops l i=true) (i':Nat) (h:Mc n ops i e=some (t,.string (bs s),.int k z)) (ht:IS P t=true) (hi:z=(i':Int)) (hx:s[i']? = some x)
 (H:GA P S n m L ops (i::l) (BN e (Aq ops i).dst (.int .u8 (x.toNat:Int))) w):GA P S n m L ops l e w :=
 GA.IT hb (fun w=>JC h (Lb i' ht hi hx w)) H
theorem GA.Ku {i:Nat}{t:TypeId}{s:Str}{lo hi:Option Value}(hb:gB n m ops l i=true) (l' h':Nat) (h:G5 n ops i e=some (t,.string (bs s),lo,hi)) (ht:IS P t=true) (hlo:bnd lo 0 l') (hhi:bnd hi s.length h') (hlh:l'≤h') (hh:h'≤s.length)
 (H:GA P S n m L ops (i::l) (BN e (Aq ops i).dst (.string (bs ((s.take h').drop l')))) w):GA P S n m L ops l e w :=
 GA.IT hb (fun w=>DU h (Lc ht hlo hhi hlh hh w)) H
end
end Go.Proofs.YtggnnidleedpaaaGreat
namespace Go.Proofs.YtggnnidleedpaaaGreat
@[reducible] def vS (b n c:Nat):Value:=.slice (some ⟨b,0,none⟩) n c
@[reducible] def vI (z:Int):Value:=.int .i64 z
@[reducible] def vT (s:Str):Value:=.string (bs s)
def ldT (o:Option (TypeId × Addr)):TypeId:=match o with | some (t,_)=>t | none=>0
def ldO (o:Option (TypeId × Addr)):Nat:=match o with | some (_,a)=>off (some a) | none=>0
def ldV (cs:List Value) (o:Option (TypeId × Addr)):Value:=(cs[ldO o]?).getD undef
def ldN (P:Program) (o:Option (TypeId × Addr)):Nat:=match P.info? (ldT o) with | some i=>i.size | none=>0
def ldL (P:Program) (cs:List Value) (o:Option (TypeId × Addr)):List Value:=(cs.drop (ldO o)).take (ldN P o)
def ldH (P:Program) (cs:List Value) (k:Nat) (o:Option (TypeId × Addr)):List Value:=(cs.drop k).take (ldN P o)
def stT (o:Option (TypeId × Addr × Value)):TypeId:=match o with | some (t,_)=>t | none=>0
def lbE (cs:List Value) (n:Nat) (ops:Array Oper) (j:Nat) (e:Env):Env:=BN e (Aq ops j).dst (ldV cs (loadAt n ops j e))
def lnE (P:Program) (cs:List Value) (n:Nat) (ops:Array Oper) (j:Nat) (e:Env):Env:=BN e (Aq ops j).dst (.agg (ldL P cs (loadAt n ops j e)).toArray)
def lgE (P:Program) (cs:List Value) (k n:Nat) (ops:Array Oper) (j:Nat) (e:Env):Env:=BN e (Aq ops j).dst (.agg (ldH P cs k (loadAt n ops j e)).toArray)
def lbG (cs:List Value) (n m:Nat) (ops:Array Oper) (l:List Nat) (i:Nat) (e:Env):Env:=BN e (Aq ops i).dst (ldV cs (CS n m ops l i e))
def lnG (P:Program) (cs:List Value) (n m:Nat) (ops:Array Oper) (l:List Nat) (i:Nat) (e:Env):Env:=BN e (Aq ops i).dst (.agg (ldL P cs (CS n m ops l i e)).toArray)
def lgG (P:Program) (cs:List Value) (k n m:Nat) (ops:Array Oper) (l:List Nat) (i:Nat) (e:Env):Env:=BN e (Aq ops i).dst (.agg (ldH P cs k (CS n m ops l i e)).toArray)
section
variable {P:Program} {n:Nat} {K:Env→World→Prop} {ops:Array Oper} {j:Nat} {e:Env} {w:World} {t t':TypeId} {b o:Nat} {cs:List Value} {v:Value}
theorem RG.r (m:Nat) (H:RG P n K ops (j+m) (SV P ops m j e) w) (h:NJ P n ops m j e=true:=by kernel_rfl):RG P n K ops j e w:=RG.run m h H
theorem RG.d (H:K e w) (h:Nat.beq ops.toList.length j=true:=by kernel_rfl):RG P n K ops j e w:=RG.done h H
theorem RG.lb (hb:Box w b t cs) (H:RG P n K ops (j+1) (lbE cs n ops j e) w)
 (h:loadAt n ops j e=some (ldT (loadAt n ops j e),⟨b,ldO (loadAt n ops j e),none⟩):=by kernel_rfl)
 (hs:Cj P (ldT (loadAt n ops j e))=true:=by kernel_rfl) (hv:cs[ldO (loadAt n ops j e)]? = some (ldV cs (loadAt n ops j e)):=by kernel_rfl):RG P n K ops j e w :=
 RG.Ox hb h hs hv H
theorem RG.ln (hb:Box w b t cs) (H:RG P n K ops (j+1) (lnE P cs n ops j e) w)
 (h:loadAt n ops j e=some (ldT (loadAt n ops j e),⟨b,ldO (loadAt n ops j e),none⟩):=by kernel_rfl)
 (hs:Fg P (ldT (loadAt n ops j e)) (ldL P cs (loadAt n ops j e)).length=true:=by kernel_rfl)
 (hv:(cs.drop (ldO (loadAt n ops j e))).take (ldL P cs (loadAt n ops j e)).length=ldL P cs (loadAt n ops j e):=by kernel_rfl):RG P n K ops j e w :=
 RG.MV _ hb h hs hv H
theorem RG.lh (k:Nat) (hc:Has w ⟨b,o,none⟩ cs) (H:RG P n K ops (j+1) (BN e (Aq ops j).dst ((cs[k]?).getD undef)) w)
 (h:loadAt n ops j e=some (ldT (loadAt n ops j e),⟨b,o+k,none⟩):=by kernel_rfl)
 (hs:Cj P (ldT (loadAt n ops j e))=true:=by kernel_rfl) (hv:cs[k]? = some ((cs[k]?).getD undef):=by kernel_rfl):RG P n K ops j e w :=
 RG.Oy k hc h hs hv H
theorem RG.lg (k:Nat) (hc:Has w ⟨b,o,none⟩ cs) (H:RG P n K ops (j+1) (lgE P cs k n ops j e) w)
 (h:loadAt n ops j e=some (ldT (loadAt n ops j e),⟨b,o+k,none⟩):=by kernel_rfl)
 (hs:Fg P (ldT (loadAt n ops j e)) (ldH P cs k (loadAt n ops j e)).length=true:=by kernel_rfl)
 (hv:(cs.drop k).take (ldH P cs k (loadAt n ops j e)).length=ldH P cs k (loadAt n ops j e):=by kernel_rfl):RG P n K ops j e w :=
 RG.Fi k _ hc h hs hv H
theorem RG.sb (o:Nat) (v:Value) (cs':List Value) (hb:Box w b t cs)
 (H:∀ w',Chg (one b) w w'→Box w' b t cs'→w'.heap.size=w.heap.size→RG P n K ops (j+1) (BN e (Aq ops j).dst undef) w')
 (h:storeAt n ops j e=some (stT (storeAt n ops j e),⟨b,o,none⟩,v):=by kernel_rfl)
 (hs:(Fh P (stT (storeAt n ops j e)) v.cells.size&&Nat.ble (o+v.cells.size) cs.length&&v.cells.toList.all Dr)=true:=by kernel_rfl)
 (hc:BQ cs o v.cells.toList=cs':=by kernel_rfl):RG P n K ops j e w :=
 RG.Dc cs' hb h hs hc H
theorem RG.ss (o:Nat) (v:Value) (hb:Box w b t cs)
 (H:∀ w',Chg (one b) w w'→Box w' b t (cs.set o v)→w'.heap.size=w.heap.size→RG P n K ops (j+1) (BN e (Aq ops j).dst undef) w')
 (h:storeAt n ops j e=some (stT (storeAt n ops j e),⟨b,o,none⟩,v):=by kernel_rfl)
 (hs:(Fh P (stT (storeAt n ops j e)) v.cells.size&&Nat.ble (o+v.cells.size) cs.length&&v.cells.toList.all Dr)=true:=by kernel_rfl)
 (hc:BQ cs o v.cells.toList=cs.set o v:=by kernel_rfl):RG P n K ops j e w:=RG.Dc _ hb h hs hc H
theorem RG.sc (vs:List Value) (hb:Box w b t cs)
 (H:∀ w',Chg (one b) w w'→Box w' b t vs→w'.heap.size=w.heap.size→RG P n K ops (j+1) (BN e (Aq ops j).dst undef) w')
 (h:storeAt n ops j e=some (stT (storeAt n ops j e),⟨b,0,none⟩,.agg vs.toArray):=by kernel_rfl)
 (hs:(Fh P (stT (storeAt n ops j e)) (Value.agg vs.toArray).cells.size&&Nat.ble (0+(Value.agg vs.toArray).cells.size) cs.length&&(Value.agg vs.toArray).cells.toList.all Dr)=true:=by kernel_rfl)
 (hc:BQ cs 0 (Value.agg vs.toArray).cells.toList=vs:=by kernel_rfl):RG P n K ops j e w:=RG.Dc _ hb h hs hc H
theorem RG.ix {α:Type}[Rep α] {F:Nat→Prop}{a:Option Addr}{m c:Nat}{xs:List α}(i sz:Nat) (hr:RepS w F a m c xs) (hi:i< m)
 (H:RG P n K ops (j+1) (BN e (Aq ops j).dst (.pointer (some ⟨blk a,off a+i * sz,none⟩))) w) (h:NK P n ops j e=some (a,m,(i:Int),sz):=by kernel_rfl):RG P n K ops j e w :=
 RG.idx i h rfl hi (hr.addr (Nat.zero_lt_of_lt hi)) H
theorem RG.nw (v:Nat→Value) (t:TypeId) (cs:List Value)
 (H:∀ b w',b=w.heap.size→Ext w w'→Box w' b t cs→w'.heap.size=b+1→RG P n K ops (j+1) (BN e (Aq ops j).dst (v b)) w')
 (h:∀ b,DF P n ops j e b=some (v b,t,cs):=by intro _; kernel_rfl):RG P n K ops j e w:=RG.new h H
theorem RG.np (t:TypeId) (cs:List Value)
 (H:∀ b w',b=w.heap.size→Ext w w'→Box w' b t cs→w'.heap.size=b+1→RG P n K ops (j+1) (BN e (Aq ops j).dst (.pointer (some ⟨b,0,none⟩))) w')
 (h:∀ b,DF P n ops j e b=some (.pointer (some ⟨b,0,none⟩),t,cs):=by intro _; kernel_rfl):RG P n K ops j e w:=RG.new h H
theorem RG.ns (m:Nat) (t:TypeId) (cs:List Value)
 (H:∀ b w',b=w.heap.size→Ext w w'→Box w' b t cs→w'.heap.size=b+1→RG P n K ops (j+1) (BN e (Aq ops j).dst (.slice (some ⟨b,0,none⟩) m m)) w')
 (h:∀ b,DF P n ops j e b=some (.slice (some ⟨b,0,none⟩) m m,t,cs):=by intro _; kernel_rfl):RG P n K ops j e w:=RG.new h H
theorem RG.bp (p:Prop) [Decidable p] (ht:p→RG P n K ops (j+1) (BN e (Aq ops j).dst (.bool true)) w)
 (hf:¬ p→RG P n K ops (j+1) (BN e (Aq ops j).dst (.bool false)) w) (h:Gx P n ops j e=some (.bool (decide p)):=by kernel_rfl):RG P n K ops j e w:=RG.Ey p h ht hf
theorem RG.eq (a b:Int) (ht:a=b→RG P n K ops (j+1) (BN e (Aq ops j).dst (.bool true)) w)
 (hf:a≠b→RG P n K ops (j+1) (BN e (Aq ops j).dst (.bool false)) w) (h:Gx P n ops j e=some (.bool (a==b)):=by kernel_rfl):RG P n K ops j e w:=RG.eqI h ht hf
theorem RG.ne (a b:Int) (ht:a≠b→RG P n K ops (j+1) (BN e (Aq ops j).dst (.bool true)) w)
 (hf:a=b→RG P n K ops (j+1) (BN e (Aq ops j).dst (.bool false)) w) (h:Gx P n ops j e=some (.bool (a != b)):=by kernel_rfl):RG P n K ops j e w:=RG.neI h ht hf
theorem RG.it (z:Int) (H:RG P n K ops (j+1) (BN e (Aq ops j).dst (.int .i64 z)) w) (h:Gx P n ops j e=some (.int .i64 (IntKind.i64.wrap z)):=by kernel_rfl)
 (hz:-9223372036854775808≤z∧z≤9223372036854775807:=by omega):RG P n K ops j e w:=RG.int z h hz H
theorem RG.cl {f:FuncId}{args:List Value}{Q:Value→World→Prop}(hc:Calls P f args.toArray w (BB Q))
 (H:∀ v w',Q v w'→RG P n K ops (j+1) (BN e (Aq ops j).dst v) w') (h:HZ P n ops j e=some (f,args):=by kernel_rfl):RG P n K ops j e w:=RG.call h hc H
end
section
variable {P:Program} {f:FuncId} {fn:Func} {R:Value→World→Prop} {c:Code} {k:List Item} {e:Env} {w:World} {v:Value}
theorem T.s (H:T P f fn R (.code (lft c) :: .code (rgt c)::k) e w) (h:Ou c=true:=by kernel_rfl):T P f fn R (.code c::k) e w:=T.seq h H
theorem T.sk (H:T P f fn R k e w) (h:MU c=true:=by kernel_rfl):T P f fn R (.code c::k) e w:=T.skip h H
theorem T.b (i:Nat) (H:T P f fn R (.code (bdy c) :: .inBlock i::k) e w) (h:Ki c i=true:=by kernel_rfl):T P f fn R (.code c::k) e w:=T.block i h H
theorem T.ib (i:Nat) (H:T P f fn R k e w):T P f fn R (.inBlock i::k) e w:=T.inBlock i H
theorem T.x (i:Nat){k':List Item}(hk:exitTo i k=some k') (H:T P f fn R k' e w) (h:MS c i=true:=by kernel_rfl):T P f fn R (.code c::k) e w:=T.exit i h hk H
theorem T.ct (H:T P f fn R (.code (thn c)::k) e w) (h:F9 e c=.bool true:=by kernel_rfl):T P f fn R (.code c::k) e w:=T.Ta h H
theorem T.cf (H:T P f fn R (.code (els c)::k) e w) (h:F9 e c=.bool false:=by kernel_rfl):T P f fn R (.code c::k) e w:=T.Tb h H
theorem T.g (H:RG P fn.ntmps (fun e' w'=>T P f fn R k e' w') (Ha c) 0 e w) (h:I5 c false=true:=by kernel_rfl):T P f fn R (.code c::k) e w:=T.region h H
theorem T.gd (S:Nat→Prop) (m:Nat)
 (H:∀ w1,Ext w w1→GA P S fn.ntmps m (fun e' w'=>RG P fn.ntmps (fun e'' w''=>T P f fn R k e'' w'') (Ha c) m e' w') (Ha c) [] e w1)
 (h:(I5 c true&&P.follows .mixedOrders&&J6 (Ha c) m)=true:=by kernel_rfl):T P f fn R (.code c::k) e w:=T.NN S m h H
theorem T.rt {t:Tmp}(hf:P.funcs[f]? = some fn) (hres:fn.results = #[.tmp t]) (v:Value) (hR:R v w) (h:FP c=true:=by kernel_rfl) (h1:e t=v:=by kernel_rfl):T P f fn R (.code c::k) e w :=
 T.Tc h hf hres (Bs.tmp h1) hR
theorem Bs.bx {x t u:Nat}{b:Nat}{cs:List Value}(hb:Box w b u cs) (h1:e x=.pointer (some ⟨b,0,none⟩):=by kernel_rfl) (h2:Fg P t cs.length=true:=by kernel_rfl):Bs P w e (.cell x t) (.agg cs.toArray) :=
 Bs.cell h1 ((hb.has 0 cs AD).E0 h2)
theorem Bs.t {t:Tmp}(v:Value) (h:e t=v:=by kernel_rfl):Bs P w e (.tmp t) v:=h
theorem T.rb {x t u:Nat}{b:Nat}{cs:List Value}(hf:P.funcs[f]? = some fn) (hres:fn.results = #[.cell x t]) (hb:Box w b u cs) (hR:R (.agg cs.toArray) w) (h:FP c=true:=by kernel_rfl)
 (h1:e x=.pointer (some ⟨b,0,none⟩):=by kernel_rfl) (h2:Fg P t cs.length=true:=by kernel_rfl):T P f fn R (.code c::k) e w :=
 T.Tc h hf hres (Bs.bx hb h1 h2) hR
theorem T.r2 {r r':ResultVar}{v v':Value}(hf:P.funcs[f]? = some fn) (hres:fn.results = #[r,r']) (h1:Bs P w e r v) (h2:Bs P w e r' v') (hR:R (.tuple #[v,v']) w) (h:FP c=true:=by kernel_rfl):T P f fn R (.code c::k) e w :=
 T.UK h hf hres h1 h2 hR
theorem T.r3 {r r' r'':ResultVar}{v v' v'':Value}(hf:P.funcs[f]? = some fn) (hres:fn.results = #[r,r',r'']) (h1:Bs P w e r v) (h2:Bs P w e r' v') (h3:Bs P w e r'' v'') (hR:R (.tuple #[v,v',v'']) w) (h:FP c=true:=by kernel_rfl):T P f fn R (.code c::k) e w :=
 T.Jn h hf hres h1 h2 h3 hR
theorem goT {args:List Value}(hf:P.funcs[f]? = some fn) (H:T P f fn R [.code (Ow fn)] (Qo args) w) (hb:fn.body=some (Ow fn):=by kernel_rfl) (hn:Nat.ble args.length fn.ntmps=true:=by kernel_rfl):Calls P f args.toArray w (BB R) :=
 Qp hf hb hn H
end
section
variable {P:Program} {S:Nat→Prop} {n m:Nat} {L:Env→World→Prop} {ops:Array Oper} {l:List Nat} {e:Env} {w:World} {t:TypeId} {b o:Nat} {cs:List Value}
theorem GA.r (is:List Nat) (H:GA P S n m L ops (is.reverse++l) (NM P ops is e) w) (h:Kr P n m ops is l e=true:=by kernel_rfl):GA P S n m L ops l e w:=GA.run is h H
theorem GA.d (H:∀ w1,Ext w w1→L e w1) (h:(Nat.beq l.length m&&Nat.beq (D6 l) (D6 (List.range m)))=true:=by kernel_rfl):GA P S n m L ops l e w:=GA.done h H
theorem GA.lb (i:Nat) (hb:Box w b t cs) (hS:¬ S b) (H:GA P S n m L ops (i::l) (lbG cs n m ops l i e) w)
 (h:CS n m ops l i e=some (ldT (CS n m ops l i e),⟨b,ldO (CS n m ops l i e),none⟩):=by kernel_rfl)
 (hs:Cj P (ldT (CS n m ops l i e))=true:=by kernel_rfl) (hv:cs[ldO (CS n m ops l i e)]? = some (ldV cs (CS n m ops l i e)):=by kernel_rfl):GA P S n m L ops l e w :=
 GA.Ox hb hS h hs hv H
theorem GA.ln (i:Nat) (hb:Box w b t cs) (hS:¬ S b) (H:GA P S n m L ops (i::l) (lnG P cs n m ops l i e) w)
 (h:CS n m ops l i e=some (ldT (CS n m ops l i e),⟨b,ldO (CS n m ops l i e),none⟩):=by kernel_rfl)
 (hs:Fg P (ldT (CS n m ops l i e)) (ldL P cs (CS n m ops l i e)).length=true:=by kernel_rfl)
 (hv:(cs.drop (ldO (CS n m ops l i e))).take (ldL P cs (CS n m ops l i e)).length=ldL P cs (CS n m ops l i e):=by kernel_rfl):GA P S n m L ops l e w :=
 GA.MV _ hb hS h hs hv H
theorem GA.lh (i k:Nat) (hc:Has w ⟨b,o,none⟩ cs) (hS:¬ S b) (H:GA P S n m L ops (i::l) (BN e (Aq ops i).dst ((cs[k]?).getD undef)) w)
 (h:CS n m ops l i e=some (ldT (CS n m ops l i e),⟨b,o+k,none⟩):=by kernel_rfl)
 (hs:Cj P (ldT (CS n m ops l i e))=true:=by kernel_rfl) (hv:cs[k]? = some ((cs[k]?).getD undef):=by kernel_rfl):GA P S n m L ops l e w :=
 GA.Oy k hc hS h hs hv H
theorem GA.lg (i k:Nat) (hc:Has w ⟨b,o,none⟩ cs) (hS:¬ S b) (H:GA P S n m L ops (i::l) (lgG P cs k n m ops l i e) w)
 (h:CS n m ops l i e=some (ldT (CS n m ops l i e),⟨b,o+k,none⟩):=by kernel_rfl)
 (hs:Fg P (ldT (CS n m ops l i e)) (ldH P cs k (CS n m ops l i e)).length=true:=by kernel_rfl)
 (hv:(cs.drop k).take (ldH P cs k (CS n m ops l i e)).length=ldH P cs k (CS n m ops l i e):=by kernel_rfl):GA P S n m L ops l e w :=
 GA.Fi k _ hc hS h hs hv H
theorem GA.ix {α:Type}[Rep α] {F:Nat→Prop}{a:Option Addr}{N c:Nat}{xs:List α}(k i sz:Nat) (hr:RepS w F a N c xs) (hi:i< N)
 (H:GA P S n m L ops (k::l) (BN e (Aq ops k).dst (.pointer (some ⟨blk a,off a+i * sz,none⟩))) w) (h:SX P n m ops l k e=some (a,N,(i:Int),sz):=by kernel_rfl):GA P S n m L ops l e w :=
 GA.idx i h rfl hi (hr.addr (Nat.zero_lt_of_lt hi)) H
theorem GA.go (i:Nat) (H:GE P S n m L ops l i e w) (h:Qs n m ops l i e=true:=by kernel_rfl):GA P S n m L ops l e w:=GE.one h H
theorem GA.tw (i j:Nat) (Hi:GE P S n m L ops l i e w) (Hj:GE P S n m L ops l j e w) (h:SY n m ops l i j e=true:=by kernel_rfl):GA P S n m L ops l e w:=GE.two h Hi Hj
theorem GE.nw {i:Nat}(v:Nat→Value) (t:TypeId) (cs:List Value)
 (H:∀ w1,Ext w w1→∀ b w2,b=w1.heap.size→Ext w1 w2→Box w2 b t cs→w2.heap.size=b+1→GA P S n m L ops (i::l) (BN e (Aq ops i).dst (v b)) w2)
 (hn:∀ b,DF P n ops i e b=some (v b,t,cs):=by intro _; kernel_rfl):GE P S n m L ops l i e w:=GE.new hn H
theorem GE.ns {i:Nat}(k:Nat) (t:TypeId) (cs:List Value)
 (H:∀ w1,Ext w w1→∀ b w2,b=w1.heap.size→Ext w1 w2→Box w2 b t cs→w2.heap.size=b+1→GA P S n m L ops (i::l) (BN e (Aq ops i).dst (.slice (some ⟨b,0,none⟩) k k)) w2)
 (hn:∀ b,DF P n ops i e b=some (.slice (some ⟨b,0,none⟩) k k,t,cs):=by intro _; kernel_rfl):GE P S n m L ops l i e w:=GE.new hn H
theorem GE.cl {i:Nat}{f:FuncId}{args:List Value}{Q:World→Value→World→Prop}(hc:∀ w1,Ext w w1→Calls P f args.toArray w1 (BB (Q w1)))
 (H:∀ w1,Ext w w1→∀ v w2,Q w1 v w2→Chg S w1 w2∧GA P S n m L ops (i::l) (BN e (Aq ops i).dst v) w2) (hf:HZ P n ops i e=some (f,args):=by kernel_rfl):GE P S n m L ops l i e w:=GE.call hf hc H
end
class MemL (b:Nat) (M:List Nat):Prop where m:b∈M
instance {b:Nat}{M:List Nat}:MemL b (b::M):=⟨.head _⟩
instance {a b:Nat}{M:List Nat}[h:MemL b M]:MemL b (a::M):=⟨.tail _ h.m⟩
class Rpl (M:List Nat) (r r2:Nat) (M':outParam (List Nat)):Prop where
 p:∀ k,k∉M→k≠r2→k∉M'
 q:r∈M
instance {r r2:Nat}{M:List Nat}:Rpl (r::M) r r2 (r2::M):=⟨fun k h h2 hk=>by
 rcases List.mem_cons.1 hk with rfl | hk
 ·exact h2 rfl
 ·exact h (.tail _ hk),.head _⟩
instance {a r r2:Nat}{M M':List Nat}[i:Rpl M r r2 M']:Rpl (a::M) r r2 (a::M'):=⟨fun k h h2 hk=>by
 rcases List.mem_cons.1 hk with rfl | hk
 ·exact h AI
 ·exact i.p k (fun hm=>h (.tail _ hm)) h2 hk,.tail _ i.q⟩
class Drp (M:List Nat) (r:Nat) (M':outParam (List Nat)):Prop where
 p:∀ k∈M',k∈M
 q:∀ k∈M,k∈M'∨k=r
instance {r:Nat}{M:List Nat}:Drp (r::M) r M:=⟨fun _ h=>.tail _ h,fun k h=>by
 rcases List.mem_cons.1 h with rfl | h
 ·exact .inr rfl
 ·exact .inl h⟩
instance {a r:Nat}{M M':List Nat}[i:Drp M r M']:Drp (a::M) r (a::M'):=⟨fun k h=>by
 rcases List.mem_cons.1 h with rfl | h
 ·exact .head _
 ·exact .tail _ (i.p k h),fun k h=>by
 rcases List.mem_cons.1 h with rfl | h
 ·exact .inl AI
 ·exact (i.q k h).imp (.tail _) id⟩
class NbA (b:Nat) (K:List Nat):Prop where a:∀ k∈K,b≠k
instance {b:Nat}:NbA b []:=⟨fun _ h=>by cases h⟩
instance {b k:Nat}{K:List Nat}[h:Nb b k] [i:NbA b K]:NbA b (k::K):=⟨fun x hx=>by
 rcases List.mem_cons.1 hx with rfl | hx
 ·exact h.ne
 ·exact i.a x hx⟩
instance {b k:Nat}{K:List Nat}[h:Nb k b] [i:NbA b K]:NbA b (k::K):=⟨fun x hx=>by
 rcases List.mem_cons.1 hx with rfl | hx
 ·exact h.ne.symm
 ·exact i.a x hx⟩
class CovA (L:Nat→Prop) (w:World) (K:List Nat):Prop where a:∀ k∈K,Cov L w k
instance {L:Nat→Prop}{w:World}:CovA L w []:=⟨fun _ h=>by cases h⟩
instance {L:Nat→Prop}{w:World}{k:Nat}{K:List Nat}[h:Cov L w k] [i:CovA L w K]:CovA L w (k::K):=⟨fun x hx=>by
 rcases List.mem_cons.1 hx with rfl | hx
 ·exact h
 ·exact i.a x hx⟩
structure Sp (M M':List Nat) (S:Nat→Prop) (w w':World):Prop where
 mv:Mv M M' w w'
 ch:Chg S w w'
class MT (M M':List Nat) (S:Nat→Prop) (w w':World) (A:Prop) (B:outParam Prop):Prop where go:Mv M M' w w'→Chg S w w'→A→B
section
variable {α:Type} [Rep α] {w w' base:World} {G S L:Nat→Prop} {M M' K:List Nat} {a:Option Addr} {n c r b k:Nat} {t:TypeId} {xs:List α} {cs:List Value}
instance:MT M M' S w w' (RepS w (nin G M) a n c xs) (RepS w' (nin G M') a n c xs):=⟨fun hm _ h=>h.mv hm⟩
instance:MT M M' nil w w' (Box w b t cs) (Box w' b t cs):=⟨fun _ hx h=>h.mv hx (fun h=>h)⟩
instance [h:Nb b k]:MT M M' (one k) w w' (Box w b t cs) (Box w' b t cs):=⟨fun _ hx g=>g.mv hx h.ne⟩
instance [h:Nb k b]:MT M M' (one k) w w' (Box w b t cs) (Box w' b t cs):=⟨fun _ hx g=>g.mv hx h.ne.symm⟩
instance [h:NbA b K]:MT M M' (ins K) w w' (Box w b t cs) (Box w' b t cs):=⟨fun _ hx g=>g.mv hx (fun hb=>h.a b hb rfl)⟩
instance:MT M M' nil w w' (Own w r t (nin G M) n c xs) (Own w' r t (nin G M') n c xs):=⟨fun hm hx h=>h.mv hm hx (fun h=>h)⟩
instance [h:Nb r k]:MT M M' (one k) w w' (Own w r t (nin G M) n c xs) (Own w' r t (nin G M') n c xs):=⟨fun hm hx g=>g.mv hm hx h.ne⟩
instance [h:Nb k r]:MT M M' (one k) w w' (Own w r t (nin G M) n c xs) (Own w' r t (nin G M') n c xs):=⟨fun hm hx g=>g.mv hm hx h.ne.symm⟩
instance [h:NbA r K]:MT M M' (ins K) w w' (Own w r t (nin G M) n c xs) (Own w' r t (nin G M') n c xs):=⟨fun hm hx g=>g.mv hm hx (fun hb=>h.a r hb rfl)⟩
instance:MT M M' nil w w' (Chg L base w) (Chg L base w'):=⟨fun _ hx h=>h.Cb hx⟩
instance [hc:Cov L base k]:MT M M' (one k) w w' (Chg L base w) (Chg L base w'):=⟨fun _ hx h=>h.EW hx hc⟩
instance [hc:CovA L base K]:MT M M' (ins K) w w' (Chg L base w) (Chg L base w'):=⟨fun _ hx h=>h.Cr hx hc.a⟩
theorem sp (hm:Mv M M' w w') (hx:Chg S w w'):Sp M M' S w w':=⟨hm,hx⟩
theorem sn (M:List Nat) (hx:Ext w w') (hb:b=w.heap.size):Sp M (b::M) nil w w':=⟨Mv.cons (Mv.ext hx) (Nat.le_of_eq hb.symm),hx⟩
theorem sz (M:List Nat) (hx:Ext w w') (hb:w.heap.size≤b):Sp M (b::M) nil w w':=⟨Mv.cons (Mv.ext hx) hb,hx⟩
theorem se (M:List Nat) (hx:Ext w w'):Sp M M nil w w':=⟨Mv.ext hx,hx⟩
theorem so (M:List Nat) (hx:Chg (one b) w w') [h:MemL b M]:Sp M M (one b) w w':=⟨Mv.on hx h.m,hx⟩
theorem s1 (hx:Chg (one b) w w'):Sp [b] [b] (one b) w w':=⟨Mv.on hx AI,hx⟩
theorem si (hx:Chg (ins K) w w'):Sp K K (ins K) w w':=⟨Mv.mk hx (fun _ _ h=>⟨h,h⟩),hx⟩
theorem sa (M:List Nat){r2:Nat}(hx:Chg (one r) w w') (ho:r2=r∨r2=w.heap.size) [h:Rpl M r r2 M']:Sp M M' (one r) w w' :=
 ⟨Mv.mk hx (fun k hk hm=>⟨h.p k hm (fun e=>by
  subst e
  rcases ho with rfl | e
  ·exact hm h.q
  ·omega),fun e=>hm (by cases e; exact h.q)⟩),hx⟩
theorem sd (w:World) (M:List Nat) (r:Nat) [h:Drp M r M']:Sp M M' nil w w:=⟨Mv.less h.p,Chg.refl _ _⟩
theorem Own.rn {r2:Nat}(h:Own w r2 t (nin G M) n c xs) (r:Nat) [i:Rpl M r r2 M']:Own w r2 t (nin G M') n c xs :=
 h.R4 (fun k _ hm hr=>i.p k hm hr)
theorem Own.sl (h:Own w r t (nin G M) n c xs) (hg:G r) [i:Drp M r M'] [j:NbA r M']:RepS w (nin G M') (some ⟨r,0,none⟩) n c xs :=
 h.O0 (fun _ _ hF=>⟨hF.1,fun hm=>hF.2 (i.p _ hm)⟩) ⟨hg,fun hm=>j.a r hm rfl⟩
theorem RepS.fr {s s0:Nat}(h:RepS w (ge s) a n c xs) (hM:∀ b∈M,b< s) (hs:Gb s0 s):RepS w (nin (ge s0) M) a n c xs :=
 h.fresh hM (fun _ h=>Nat.le_trans hs h)
theorem RepS.w1 (h:RepS w (nin G M) a n c xs):RepS w G a n c xs:=h.CE (fun _ _ h=>h.1)
theorem RepS.oi [i:MemL r M] (h:RepS w (nin G M) a n c xs):RepS w (fun b=>nin G M b∧b≠r) a n c xs:=h.CE (fun _ _ h=>Dx i.m h)
theorem RepS.ta (h:RepS w G a n c xs):RepS w all a n c xs:=h.CE (fun _ _ _=>trivial)
theorem RepS.tp (h:RepS w G a n c xs):n=xs.length∧n≤9223372036854775807∧RepS w (nin (fo G w.heap.size) []) a n c xs:=⟨h.len,h.max,h.top⟩
theorem Chg.cn (h:Chg L base w) (hb:b=w.heap.size):Cov L base b:=Bf hb h.size
end
section
variable {M M1:List Nat} {S:Nat→Prop} {w w1:World}
theorem Sp.g1 {A0 B0:Prop}(s:Sp M M1 S w w1) (a0:A0) [i0:MT M M1 S w w1 A0 B0]:B0:=i0.go s.mv s.ch a0
theorem Sp.g2 {A0 A1 B0 B1:Prop}(s:Sp M M1 S w w1) (a0:A0) (a1:A1) [i0:MT M M1 S w w1 A0 B0] [i1:MT M M1 S w w1 A1 B1]:B0∧B1:=⟨i0.go s.mv s.ch a0,i1.go s.mv s.ch a1⟩
theorem Sp.g3 {A0 A1 A2 B0 B1 B2:Prop}(s:Sp M M1 S w w1) (a0:A0) (a1:A1) (a2:A2) [i0:MT M M1 S w w1 A0 B0] [i1:MT M M1 S w w1 A1 B1] [i2:MT M M1 S w w1 A2 B2]:B0∧B1∧B2:=⟨i0.go s.mv s.ch a0,i1.go s.mv s.ch a1,i2.go s.mv s.ch a2⟩
theorem Sp.g4 {A0 A1 A2 A3 B0 B1 B2 B3:Prop}(s:Sp M M1 S w w1) (a0:A0) (a1:A1) (a2:A2) (a3:A3) [i0:MT M M1 S w w1 A0 B0] [i1:MT M M1 S w w1 A1 B1] [i2:MT M M1 S w w1 A2 B2] [i3:MT M M1 S w w1 A3 B3]:B0∧B1∧B2∧B3:=⟨i0.go s.mv s.ch a0,i1.go s.mv s.ch a1,i2.go s.mv s.ch a2,i3.go s.mv s.ch a3⟩
theorem Sp.g5 {A0 A1 A2 A3 A4 B0 B1 B2 B3 B4:Prop}(s:Sp M M1 S w w1) (a0:A0) (a1:A1) (a2:A2) (a3:A3) (a4:A4) [i0:MT M M1 S w w1 A0 B0] [i1:MT M M1 S w w1 A1 B1] [i2:MT M M1 S w w1 A2 B2] [i3:MT M M1 S w w1 A3 B3] [i4:MT M M1 S w w1 A4 B4]:B0∧B1∧B2∧B3∧B4:=⟨i0.go s.mv s.ch a0,i1.go s.mv s.ch a1,i2.go s.mv s.ch a2,i3.go s.mv s.ch a3,i4.go s.mv s.ch a4⟩
theorem Sp.g6 {A0 A1 A2 A3 A4 A5 B0 B1 B2 B3 B4 B5:Prop}(s:Sp M M1 S w w1) (a0:A0) (a1:A1) (a2:A2) (a3:A3) (a4:A4) (a5:A5) [i0:MT M M1 S w w1 A0 B0] [i1:MT M M1 S w w1 A1 B1] [i2:MT M M1 S w w1 A2 B2] [i3:MT M M1 S w w1 A3 B3] [i4:MT M M1 S w w1 A4 B4] [i5:MT M M1 S w w1 A5 B5]:B0∧B1∧B2∧B3∧B4∧B5:=⟨i0.go s.mv s.ch a0,i1.go s.mv s.ch a1,i2.go s.mv s.ch a2,i3.go s.mv s.ch a3,i4.go s.mv s.ch a4,i5.go s.mv s.ch a5⟩
theorem Sp.g7 {A0 A1 A2 A3 A4 A5 A6 B0 B1 B2 B3 B4 B5 B6:Prop}(s:Sp M M1 S w w1) (a0:A0) (a1:A1) (a2:A2) (a3:A3) (a4:A4) (a5:A5) (a6:A6) [i0:MT M M1 S w w1 A0 B0] [i1:MT M M1 S w w1 A1 B1] [i2:MT M M1 S w w1 A2 B2] [i3:MT M M1 S w w1 A3 B3] [i4:MT M M1 S w w1 A4 B4] [i5:MT M M1 S w w1 A5 B5] [i6:MT M M1 S w w1 A6 B6]:B0∧B1∧B2∧B3∧B4∧B5∧B6:=⟨i0.go s.mv s.ch a0,i1.go s.mv s.ch a1,i2.go s.mv s.ch a2,i3.go s.mv s.ch a3,i4.go s.mv s.ch a4,i5.go s.mv s.ch a5,i6.go s.mv s.ch a6⟩
theorem Sp.g8 {A0 A1 A2 A3 A4 A5 A6 A7 B0 B1 B2 B3 B4 B5 B6 B7:Prop}(s:Sp M M1 S w w1) (a0:A0) (a1:A1) (a2:A2) (a3:A3) (a4:A4) (a5:A5) (a6:A6) (a7:A7) [i0:MT M M1 S w w1 A0 B0] [i1:MT M M1 S w w1 A1 B1] [i2:MT M M1 S w w1 A2 B2] [i3:MT M M1 S w w1 A3 B3] [i4:MT M M1 S w w1 A4 B4] [i5:MT M M1 S w w1 A5 B5] [i6:MT M M1 S w w1 A6 B6] [i7:MT M M1 S w w1 A7 B7]:B0∧B1∧B2∧B3∧B4∧B5∧B6∧B7:=⟨i0.go s.mv s.ch a0,i1.go s.mv s.ch a1,i2.go s.mv s.ch a2,i3.go s.mv s.ch a3,i4.go s.mv s.ch a4,i5.go s.mv s.ch a5,i6.go s.mv s.ch a6,i7.go s.mv s.ch a7⟩
theorem Sp.g9 {A0 A1 A2 A3 A4 A5 A6 A7 A8 B0 B1 B2 B3 B4 B5 B6 B7 B8:Prop}(s:Sp M M1 S w w1) (a0:A0) (a1:A1) (a2:A2) (a3:A3) (a4:A4) (a5:A5) (a6:A6) (a7:A7) (a8:A8) [i0:MT M M1 S w w1 A0 B0] [i1:MT M M1 S w w1 A1 B1] [i2:MT M M1 S w w1 A2 B2] [i3:MT M M1 S w w1 A3 B3] [i4:MT M M1 S w w1 A4 B4] [i5:MT M M1 S w w1 A5 B5] [i6:MT M M1 S w w1 A6 B6] [i7:MT M M1 S w w1 A7 B7] [i8:MT M M1 S w w1 A8 B8]:B0∧B1∧B2∧B3∧B4∧B5∧B6∧B7∧B8:=⟨i0.go s.mv s.ch a0,i1.go s.mv s.ch a1,i2.go s.mv s.ch a2,i3.go s.mv s.ch a3,i4.go s.mv s.ch a4,i5.go s.mv s.ch a5,i6.go s.mv s.ch a6,i7.go s.mv s.ch a7,i8.go s.mv s.ch a8⟩
theorem Sp.g10 {A0 A1 A2 A3 A4 A5 A6 A7 A8 A9 B0 B1 B2 B3 B4 B5 B6 B7 B8 B9:Prop}(s:Sp M M1 S w w1) (a0:A0) (a1:A1) (a2:A2) (a3:A3) (a4:A4) (a5:A5) (a6:A6) (a7:A7) (a8:A8) (a9:A9) [i0:MT M M1 S w w1 A0 B0] [i1:MT M M1 S w w1 A1 B1] [i2:MT M M1 S w w1 A2 B2] [i3:MT M M1 S w w1 A3 B3] [i4:MT M M1 S w w1 A4 B4] [i5:MT M M1 S w w1 A5 B5] [i6:MT M M1 S w w1 A6 B6] [i7:MT M M1 S w w1 A7 B7] [i8:MT M M1 S w w1 A8 B8] [i9:MT M M1 S w w1 A9 B9]:B0∧B1∧B2∧B3∧B4∧B5∧B6∧B7∧B8∧B9:=⟨i0.go s.mv s.ch a0,i1.go s.mv s.ch a1,i2.go s.mv s.ch a2,i3.go s.mv s.ch a3,i4.go s.mv s.ch a4,i5.go s.mv s.ch a5,i6.go s.mv s.ch a6,i7.go s.mv s.ch a7,i8.go s.mv s.ch a8,i9.go s.mv s.ch a9⟩
theorem Sp.g11 {A0 A1 A2 A3 A4 A5 A6 A7 A8 A9 A10 B0 B1 B2 B3 B4 B5 B6 B7 B8 B9 B10:Prop}(s:Sp M M1 S w w1) (a0:A0) (a1:A1) (a2:A2) (a3:A3) (a4:A4) (a5:A5) (a6:A6) (a7:A7) (a8:A8) (a9:A9) (a10:A10) [i0:MT M M1 S w w1 A0 B0] [i1:MT M M1 S w w1 A1 B1] [i2:MT M M1 S w w1 A2 B2] [i3:MT M M1 S w w1 A3 B3] [i4:MT M M1 S w w1 A4 B4] [i5:MT M M1 S w w1 A5 B5] [i6:MT M M1 S w w1 A6 B6] [i7:MT M M1 S w w1 A7 B7] [i8:MT M M1 S w w1 A8 B8] [i9:MT M M1 S w w1 A9 B9] [i10:MT M M1 S w w1 A10 B10]:B0∧B1∧B2∧B3∧B4∧B5∧B6∧B7∧B8∧B9∧B10:=⟨i0.go s.mv s.ch a0,i1.go s.mv s.ch a1,i2.go s.mv s.ch a2,i3.go s.mv s.ch a3,i4.go s.mv s.ch a4,i5.go s.mv s.ch a5,i6.go s.mv s.ch a6,i7.go s.mv s.ch a7,i8.go s.mv s.ch a8,i9.go s.mv s.ch a9,i10.go s.mv s.ch a10⟩
theorem Sp.g12 {A0 A1 A2 A3 A4 A5 A6 A7 A8 A9 A10 A11 B0 B1 B2 B3 B4 B5 B6 B7 B8 B9 B10 B11:Prop}(s:Sp M M1 S w w1) (a0:A0) (a1:A1) (a2:A2) (a3:A3) (a4:A4) (a5:A5) (a6:A6) (a7:A7) (a8:A8) (a9:A9) (a10:A10) (a11:A11) [i0:MT M M1 S w w1 A0 B0] [i1:MT M M1 S w w1 A1 B1] [i2:MT M M1 S w w1 A2 B2] [i3:MT M M1 S w w1 A3 B3] [i4:MT M M1 S w w1 A4 B4] [i5:MT M M1 S w w1 A5 B5] [i6:MT M M1 S w w1 A6 B6] [i7:MT M M1 S w w1 A7 B7] [i8:MT M M1 S w w1 A8 B8] [i9:MT M M1 S w w1 A9 B9] [i10:MT M M1 S w w1 A10 B10] [i11:MT M M1 S w w1 A11 B11]:B0∧B1∧B2∧B3∧B4∧B5∧B6∧B7∧B8∧B9∧B10∧B11:=⟨i0.go s.mv s.ch a0,i1.go s.mv s.ch a1,i2.go s.mv s.ch a2,i3.go s.mv s.ch a3,i4.go s.mv s.ch a4,i5.go s.mv s.ch a5,i6.go s.mv s.ch a6,i7.go s.mv s.ch a7,i8.go s.mv s.ch a8,i9.go s.mv s.ch a9,i10.go s.mv s.ch a10,i11.go s.mv s.ch a11⟩
end
theorem al1 {a0 s:Nat}(h0:a0< s):∀ b∈[a0],b< s:=all_cons h0 (all_nil)
theorem al2 {a0 a1 s:Nat}(h0:a0< s) (h1:a1< s):∀ b∈[a0,a1],b< s:=all_cons h0 (all_cons h1 (all_nil))
theorem al3 {a0 a1 a2 s:Nat}(h0:a0< s) (h1:a1< s) (h2:a2< s):∀ b∈[a0,a1,a2],b< s:=all_cons h0 (all_cons h1 (all_cons h2 (all_nil)))
theorem al4 {a0 a1 a2 a3 s:Nat}(h0:a0< s) (h1:a1< s) (h2:a2< s) (h3:a3< s):∀ b∈[a0,a1,a2,a3],b< s:=all_cons h0 (all_cons h1 (all_cons h2 (all_cons h3 (all_nil))))
theorem al5 {a0 a1 a2 a3 a4 s:Nat}(h0:a0< s) (h1:a1< s) (h2:a2< s) (h3:a3< s) (h4:a4< s):∀ b∈[a0,a1,a2,a3,a4],b< s:=all_cons h0 (all_cons h1 (all_cons h2 (all_cons h3 (all_cons h4 (all_nil)))))
theorem al6 {a0 a1 a2 a3 a4 a5 s:Nat}(h0:a0< s) (h1:a1< s) (h2:a2< s) (h3:a3< s) (h4:a4< s) (h5:a5< s):∀ b∈[a0,a1,a2,a3,a4,a5],b< s:=all_cons h0 (all_cons h1 (all_cons h2 (all_cons h3 (all_cons h4 (all_cons h5 (all_nil))))))
theorem al7 {a0 a1 a2 a3 a4 a5 a6 s:Nat}(h0:a0< s) (h1:a1< s) (h2:a2< s) (h3:a3< s) (h4:a4< s) (h5:a5< s) (h6:a6< s):∀ b∈[a0,a1,a2,a3,a4,a5,a6],b< s:=all_cons h0 (all_cons h1 (all_cons h2 (all_cons h3 (all_cons h4 (all_cons h5 (all_cons h6 (all_nil)))))))
end Go.Proofs.YtggnnidleedpaaaGreat
namespace Go.Proofs.YtggnnidleedpaaaGreat
def Kv:List Nat→Bool
 | []=>true
 | x::xs=>!(xs.any fun y=>Nat.beq x y)&&Kv xs
theorem OB:∀ {l:List Nat},Kv l=true→l.Nodup:=by
 intro l
 induction l with
 | nil=>intro _; simp
 | cons x xs ih =>
   intro h
   simp only [Kv,AW,Bool.not_eq_true',List.any_eq_false] at h
   refine List.nodup_cons.2 ⟨fun hm=>?_,ih h.2⟩
   have:=h.1 x hm
   simp at this
section
variable {P:Program} {S:Nat→Prop} {n m:Nat} {L:Env→World→Prop} {ops:Array Oper} {l:List Nat} {e:Env} {w:World}
theorem KB {L L':Array Bool→Act→World→Prop}(h:∀ listed a w,L listed a w→L' listed a w):∀ (f:Nat) (listed:Array Bool) (a:Act) (w:World),IP P S ops m L f listed a w→IP P S ops m L' f listed a w
 | 0,listed,a,w,hh=>fun w1 hx=>h _ _ _ (hh w1 hx)
 | f+1,listed,a,w,hh=>⟨hh.1,fun w1 hx i hi=>⟨(hh.2 w1 hx i hi).1,LS (fun a' w' _ h'=>KB h f _ a' w' h') (hh.2 w1 hx i hi).2⟩⟩
theorem GA.mono {L':Env→World→Prop}(h:∀ e w,L e w→L' e w) (hh:GA P S n m L ops l e w):GA P S n m L' ops l e w:=fun hB f a hf ha inv =>
 KB (fun _ _ _ ⟨h1,e',h2,h3⟩=>⟨h1,e',h2,h _ _ h3⟩) f _ a w (hh hB f a hf ha inv)
def O4 (ops:Array Oper) (m:Nat) (l:List Nat) (e:Env):Env:=(List.range m).foldr (fun i e=>bif l.any (fun j=>Nat.beq i j) then e else BN e (Aq ops i).dst undef) e
def Se (ops:Array Oper) (m:Nat) (l:List Nat) (e:Env) (i:Nat):Bool :=
 match (Aq ops i).guard with
 | none=>false
 | some (j,_)=>bif l.any (fun k=>Nat.beq j k) then !(EG ops (Aq ops i) e) else Nat.blt j m&&(Aq ops i).after.toList.any (fun g=>Nat.beq g.on j&&Region.binds .any g)
def R6 (n m:Nat) (ops:Array Oper) (l:List Nat) (e:Env):Bool :=
 Nat.ble m ops.toList.length&&l.all (fun i=>Nat.blt i m)&&Kv l&&(List.range m).all (fun i=>LQ n ops i&&((Aq ops i).after.toList.all fun g=>Nat.blt g.on i)&&(l.any (fun j=>Nat.beq i j) || Se ops m l e i))
theorem O5 {o:Oper}{e':Env}(h:EG ops o e=false) (he:∀ t,e' t=e t∨e' t=undef):EG ops o e'=false:=by
 unfold EG at h ⊢
 cases hg:o.guard with
 | none=>rw [hg] at h; simp at h
 | some g =>
   obtain ⟨j,want⟩:=g
   rw [hg] at h
   simp only at h ⊢
   cases hd:(ops[j]?).bind (·.dst) with
   | none=>rfl
   | some t =>
     rw [hd] at h
     simp only at h ⊢
     rcases he t with h1 | h1
     ·rw [h1]; exact h
     ·rw [h1]; rfl
theorem Is {i:Nat}:(l.any fun j=>Nat.beq i j)=true↔i∈l:=by
 rw [List.any_eq_true]
 constructor
 ·rintro ⟨j,hj,h⟩; rw [Nat.eq_of_beq_eq_true h]; exact hj
 ·intro h; exact ⟨i,h,by simp⟩
theorem Qy {l:List Nat}(h1:∀ i∈l,i< m) (h2:l.Nodup) (h3:m≤l.length):∀ i,i< m→i∈l:=by
 intro i hi
 by_cases hm:i∈l
 ·exact hm
 ·exfalso
  have key:∀ (m:Nat) (l:List Nat),(∀ i∈l,i< m)→l.Nodup→l.length≤m:=by
   intro m
   induction m with
   | zero=>intro l h _; cases l with | nil=>exact Nat.le_refl _ | cons x xs=>exact absurd (h x AD) AB
   | succ m ih =>
     intro l h hn
     have:=ih (l.erase m) (fun i hi=>by
      have h1:=h i (List.mem_of_mem_erase hi)
      have h2:i≠m:=fun e=>by subst e; exact (List.Nodup.mem_erase_iff hn).1 hi |>.1 rfl
      omega) (hn.erase m)
     have:=List.length_erase (a:=m) (l:=l)
     split at this <;> omega
  have:=key m (i::l) (fun j hj=>by rcases List.mem_cons.1 hj with rfl | hj; exact hi; exact h1 j hj) (List.nodup_cons.2 ⟨hm,h2⟩)
  simp at this
  omega
theorem O6:∀ (m:Nat) (l:List Nat),(∀ i,i< m→i∈l)→m≤l.length:=by
 intro m
 induction m with
 | zero=>intro l _; omega
 | succ m ih =>
   intro l h
   have hm:=h m AB
   have:=ih (l.erase m) (fun i hi=>(List.mem_erase_of_ne AB).2 (h i AB))
   have h2:=List.length_erase_of_mem hm
   have:=List.length_pos_of_mem hm
   omega
theorem Md (l:List Nat) (e:Env):∀ (is:List Nat) (t:Nat),((∃ i∈is,i∉l∧(Aq ops i).dst=some t)→is.foldr (fun i e=>bif l.any (fun j=>Nat.beq i j) then e else BN e (Aq ops i).dst undef) e t=undef) ∧
 (¬ (∃ i∈is,i∉l∧(Aq ops i).dst=some t)→is.foldr (fun i e=>bif l.any (fun j=>Nat.beq i j) then e else BN e (Aq ops i).dst undef) e t=e t):=by
 intro is
 induction is with
 | nil=>intro t; exact ⟨fun ⟨i,hi,_⟩=>(by cases hi),fun _=>rfl⟩
 | cons i is ih =>
   intro t
   obtain ⟨h1,h2⟩:=ih t
   simp only [List.foldr_cons]
   cases hc:l.any (fun j=>Nat.beq i j) with
   | true =>
     have hm:=Is.1 hc
     simp only [cond_true]
     refine ⟨fun ⟨j,hj,hn,hd⟩=>h1 ?_,fun hno=>h2 (fun ⟨j,hj,hn,hd⟩=>hno ⟨j,by simp [hj],hn,hd⟩)⟩
     rcases List.mem_cons.1 hj with rfl | hj
     ·exact absurd hm hn
     ·exact ⟨j,hj,hn,hd⟩
   | false =>
     have hm:i∉l:=fun h=>by rw [Is.2 h] at hc; cases hc
     simp only [cond_false]
     cases hd:(Aq ops i).dst with
     | none =>
       simp only [BN]
       refine ⟨fun ⟨j,hj,hn,hdj⟩=>h1 ?_,fun hno=>h2 (fun ⟨j,hj,hn,hdj⟩=>hno ⟨j,by simp [hj],hn,hdj⟩)⟩
       rcases List.mem_cons.1 hj with rfl | hj
       ·rw [hd] at hdj; cases hdj
       ·exact ⟨j,hj,hn,hdj⟩
     | some d =>
       simp only [BN,upd]
       by_cases ht:t=d
       ·subst ht
        simp only [Nat.beq_refl,cond_true]
        exact ⟨fun _=>trivial,fun hno=>absurd ⟨i,by simp,hm,hd⟩ hno⟩
       ·have hb:Nat.beq t d=false:=by
         cases hb:Nat.beq t d with
         | false=>rfl
         | true=>exact absurd (Nat.eq_of_beq_eq_true hb) ht
        simp only [hb,cond_false]
        refine ⟨fun ⟨j,hj,hn,hdj⟩=>h1 ?_,fun hno=>h2 (fun ⟨j,hj,hn,hdj⟩=>hno ⟨j,by simp [hj],hn,hdj⟩)⟩
        rcases List.mem_cons.1 hj with rfl | hj
        ·rw [hd] at hdj; exact absurd (Option.some.inj hdj).symm ht
        ·exact ⟨j,hj,hn,hdj⟩
theorem GA.skip (h:R6 n m ops l e=true) (H:∀ w1,Ext w w1→L (O4 ops m l e) w1):GA P S n m L ops l e w:=by
 intro hB f a hf ha inv
 simp only [R6,AW,List.all_eq_true,List.mem_range,Bool.or_eq_true] at h
 obtain ⟨⟨⟨hms,hl⟩,hnd⟩,hall⟩:=h
 have hms:=Nat.le_of_ble_eq_true hms
 have hsz:ops.toList.length=ops.size:=rfl
 have hl2:∀ i∈l,i< m:=fun i hi=>Nat.le_of_ble_eq_true (hl i hi)
 have key:∀ (f:Nat) (l':List Nat) (a:Act) (w:World) (e':Env),(∀ i∈l',i< m)→l'.Nodup→(∀ i∈l,i∈l')→f+l'.length=m→HeadInv .any ops m (lst ops.size l')→Sees n a e' →
  (∀ t,((∃ i∈l',i∉l∧(Aq ops i).dst=some t)→e' t=undef)∧(¬ (∃ i∈l',i∉l∧(Aq ops i).dst=some t)→e' t=e t))→(∀ w1,Ext w w1→L (O4 ops m l e) w1) →
  IP P S ops m (fun listed a' w'=>listed=fin ops m∧∃ e',Sees n a' e'∧L e' w') f (lst ops.size l') a w:=by
  intro f
  induction f with
  | zero =>
    intro l' a w e' h1 h2 h3 h4 hiv h5 h6 h7 w1 hx
    have hfull:=Qy h1 h2 AB
    refine ⟨?_,e',h5,?_⟩
    ·unfold fin
     refine Array.ext_getElem? (fun i=>?_)
     by_cases hi:i< ops.size
     ·rw [EL _ hi,EL _ hi]
      congr 1
      rw [decide_eq_decide]
      simp only [List.mem_reverse,List.mem_range]
      exact ⟨fun hm=>h1 i hm,fun hm=>hfull i hm⟩
     ·rw [Array.getElem?_eq_none (by rw [E2]; omega),Array.getElem?_eq_none (by rw [E2]; omega)]
    ·have:e'=O4 ops m l e:=by
      funext t
      obtain ⟨g1,g2⟩:=Md (ops:=ops) l e (List.range m) t
      obtain ⟨k1,k2⟩:=h6 t
      by_cases hc:∃ i∈l',i∉l∧(Aq ops i).dst=some t
      ·rw [k1 hc]
       obtain ⟨i,hi,hn,hd⟩:=hc
       exact (g1 ⟨i,List.mem_range.2 (h1 i hi),hn,hd⟩).symm
      ·rw [k2 hc]
       exact (g2 (fun ⟨i,hi,hn,hd⟩=>hc ⟨i,hfull i (List.mem_range.1 hi),hn,hd⟩)).symm
     rw [this]
     exact h7 w1 hx
  | succ f ih =>
    intro l' a w e' h1 h2 h3 h4 hiv h5 h6 h7
    have hex:∃ i,i< m∧i∉l'∧∀ j,j< i→j∈l':=by
     have:∃ i,i< m∧i∉l':=Classical.byContradiction (fun hno=>by
      have hall:∀ i,i< m→i∈l':=fun i hi=>Classical.byContradiction (fun hn=>hno ⟨i,hi,hn⟩)
      have:=O6 m l' hall
      omega)
     obtain ⟨i,hi,hn⟩:=this
     induction i using Nat.strongRecOn with
     | ind i ihi =>
       by_cases hall:∀ j,j< i→j∈l'
       ·exact ⟨i,hi,hn,hall⟩
       ·obtain ⟨j,hj⟩:=Classical.not_forall.1 hall
        obtain ⟨hj1,hj2⟩:=Classical.not_imp.1 hj
        exact ihi j hj1 AB hj2
    obtain ⟨i0,hi0,hn0,hlow⟩:=hex
    have hat:∀ i,i< m→ops[i]? = some (Aq ops i):=fun i hi=>by
     have:i< ops.size:=by omega
     simp [Aq,this]
    refine ⟨fun hr=>?_,fun w1 hx i hi=>?_⟩
    ·have:i0∈Region.ready .any ops (lst ops.size l'):=by
      rw [mem_ready]
      refine ⟨?_,Aq ops i0,hat i0 hi0,fun g hg _=>?_⟩
      ·rw [Array.getD_eq_getD_getElem?,EL _ AB]
       simp [hn0]
      ·have hlt:=(hall i0 hi0).1.2 g (by simpa using hg)
       have hlt:=Nat.le_of_ble_eq_true hlt
       rw [Array.getD_eq_getD_getElem?,EL _ AB]
       simp [hlow g.on AB]
     rw [hr] at this
     cases this
    ·obtain ⟨hun,o,ho,_⟩:=mem_ready.1 hi
     have his:i< ops.size:=(Array.getElem?_eq_some_iff.1 ho).1
     rw [Array.getD_eq_getD_getElem?,EL _ his] at hun
     have hni:i∉l':=by simpa using hun
     have him:i< m:=by
      rcases Nat.lt_or_ge i m with h | h
      ·exact h
      ·exfalso
       obtain ⟨_,_,htl,_⟩:=Gj hB
       exact I8 htl (lst ops.size l') hiv (i:=i0) hi0 (by rw [Array.getD_eq_getD_getElem?,EL _ AB]; simp [hn0]) i h hi
     refine ⟨him,?_⟩
     have hil:i∉l:=fun hm=>hni (h3 i hm)
     have hu:Se ops m l e i=true:=(hall i him).2.resolve_left (fun hc=>hil (Is.1 hc))
     have hw:EG ops (Aq ops i) e'=false:=by
      unfold Se at hu
      cases hg:(Aq ops i).guard with
      | none=>rw [hg] at hu; cases hu
      | some g =>
        obtain ⟨j,want⟩:=g
        rw [hg] at hu
        simp only at hu
        cases hj:l.any (fun k=>Nat.beq j k) with
        | true =>
          rw [hj] at hu
          simp only [cond_true,Bool.not_eq_true'] at hu
          refine O5 hu (fun t=>?_)
          obtain ⟨k1,k2⟩:=h6 t
          by_cases hc:∃ i∈l',i∉l∧(Aq ops i).dst=some t
          ·exact .inr (k1 hc)
          ·exact .inl (k2 hc)
        | false =>
          rw [hj] at hu
          simp only [cond_false,AW,List.any_eq_true] at hu
          obtain ⟨hjm,gg,hgg,hgo,hgb⟩:=hu
          have hjm:=Nat.le_of_ble_eq_true hjm
          have hgo:=Nat.eq_of_beq_eq_true hgo
          have hjl:j∉l:=fun h=>by rw [Is.2 h] at hj; cases hj
          obtain ⟨_,o2,ho2,hall2⟩:=mem_ready.1 hi
          have e1:=hat i him
          rw [e1] at ho2
          cases ho2
          have h8:=hall2 gg (by simpa using hgg) hgb
          rw [hgo,G0 _ AB] at h8
          have hjl':j∈l':=by simpa using h8
          unfold EG
          rw [hg]
          simp only
          rw [hat j hjm]
          cases hd:(Aq ops j).dst with
          | none=>simp [hd]
          | some t =>
            simp only [Option.bind_some,hd]
            rw [(h6 t).1 ⟨j,hjl',hjl,hd⟩]
            rfl
     unfold gOp
     simp only [hat i him]
     rw [h5.want,hw]
     simp only [Bool.false_eq_true,if_false]
     rw [← DH]
     have hd:=(hall i him).1.1
     have hdk:okD n (Aq ops i).dst=true:=by simp only [LQ,AW] at hd; exact hd.2
     refine ih (i::l') (a.put (Aq ops i).dst undef) w1 (BN e' (Aq ops i).dst undef) (fun j hj=>?_) (List.nodup_cons.2 ⟨hni,h2⟩) (fun j hj=>by simp [h3 j hj]) (by simp only [List.length_cons]; omega) (by rw [DH]; exact hiv.set hi him) (h5.Kh hdk undef) (fun t=>?_) (fun w2 hx2=>h7 w2 (hx.trans hx2))
     ·rcases List.mem_cons.1 hj with rfl | hj
      ·exact him
      ·exact h1 j hj
     ·obtain ⟨k1,k2⟩:=h6 t
      cases hdd:(Aq ops i).dst with
      | none =>
        simp only [BN]
        refine ⟨fun ⟨j,hj,hn,hdj⟩=>k1 ?_,fun hno=>k2 (fun ⟨j,hj,hn,hdj⟩=>hno ⟨j,by simp [hj],hn,hdj⟩)⟩
        rcases List.mem_cons.1 hj with rfl | hj
        ·rw [hdd] at hdj; cases hdj
        ·exact ⟨j,hj,hn,hdj⟩
      | some d =>
        simp only [BN,upd]
        by_cases ht:t=d
        ·subst ht
         simp only [Nat.beq_refl,cond_true]
         exact ⟨fun _=>trivial,fun hno=>absurd ⟨i,by simp,hil,hdd⟩ hno⟩
        ·have hb:Nat.beq t d=false:=by
          cases hb:Nat.beq t d with
          | false=>rfl
          | true=>exact absurd (Nat.eq_of_beq_eq_true hb) ht
         simp only [hb,cond_false]
         refine ⟨fun ⟨j,hj,hn,hdj⟩=>k1 ?_,fun hno=>k2 (fun ⟨j,hj,hn,hdj⟩=>hno ⟨j,by simp [hj],hn,hdj⟩)⟩
         rcases List.mem_cons.1 hj with rfl | hj
         ·rw [hdd] at hdj; exact absurd (Option.some.inj hdj).symm ht
         ·exact ⟨j,hj,hn,hdj⟩
 exact key f l a w e hl2 (OB hnd) (fun i hi=>hi) hf inv ha (fun t=>⟨fun ⟨i,hi,hn,_⟩=>absurd hi hn,fun _=>rfl⟩) H
end
section
variable {P:Program} {f:FuncId} {fn:Func} {R:Value→World→Prop} {c:Code} {k:List Item} {e:Env} {w:World}
theorem T.D3 {X:Type}(S:Nat→Prop) (m:Nat) (V:X→List (Nat × Value)) (I:X→World→Prop) (h:(I5 c true&&P.follows .mixedOrders&&J6 (Ha c) m)=true)
 (H1:∀ w1,Ext w w1→GA P S fn.ntmps m (fun e' w'=>∃ x,Gh e' (V x)∧I x w') (Ha c) [] e w1)
 (H2:∀ x e' w',I x w'→RG P fn.ntmps (fun e'' w''=>T P f fn R k e'' w'') (Ha c) m (N9 e' (V x)) w'):T P f fn R (.code c::k) e w :=
 T.NN S m h (fun w1 hx=>(H1 w1 hx).mono (fun e' w' ⟨x,ha,hi⟩=>by have:=H2 x e' w' hi; rwa [Hb ha] at this))
end
theorem Ad {w:World}{b:Nat}(h:Cov nil w b):w.heap.size≤b:=h.or.resolve_left (fun h=>h)
end Go.Proofs.YtggnnidleedpaaaGreat
namespace Go.Proofs.YtggnnidleedpaaaGreat
theorem CJ {a a' b b':Value}(h:a=a') (h':b=b'):Value.tuple #[a,b]=Value.tuple #[a',b']:=by rw [h,h']
theorem Kw {a a' b b' c c':Value}(h:a=a') (h':b=b') (h2:c=c'):Value.tuple #[a,b,c]=Value.tuple #[a',b',c']:=by rw [h,h',h2]
def inR (n lo hi:Int):Bool:=decide (lo≤n)&&decide (n≤hi)
theorem CF {n lo hi:Int}(h:inR n lo hi=true):lo≤n∧n≤hi:=by simpa [inR] using h
def Bi (r:Row):Bool:=inR r.t 0 99&&inR r.v (-99) 99
def CX:Option Row→List Row→Bool
 | _,[]=>true
 | o,r::rs=>Bi r&&(match o with | some q=>decide (q.t< r.t) | none=>true)&&CX (some r) rs
def Bp (b:List Row):Bool:=CX none b&&decide (b.length≤24)
def Ci (out:List Row) (r:Row) (done:Bool):List Row→List Row
 | []=>if done then out else out++[r]
 | x :: xs =>
   if !done&&decide (x.t≥r.t) then
    (if x.t != r.t then Ci (out++[r]++[x]) r true xs else Ci (out++[r]) r true xs)
   else (if x.t != r.t then Ci (out++[x]) r done xs else Ci out r done xs)
def DR (b:List Row) (r:Row):List Row:=Ci [] r false b
def Bg (a b:List Row):List Row:=b.foldl DR a
def has (n:List Tag) (t:Tag):Bool:=n.any (fun x=>x==t)
def GP (t:Tag):Nat→List (List Tag)→List Int
 | _,[]=>[]
 | i,n::ns=>(if has n t then [(i:Int)+1] else [])++GP t (i+1) ns
def ids (names:List (List Tag)) (t:Tag):List Int:=GP t 0 names
def BY:Nat→List (List Row)→List Int × List (List Row)
 | _,[]=>([],[])
 | i,b::bs=>if b.length > 0 then (((i:Int)+1)::(BY (i+1) bs).1,b::(BY (i+1) bs).2) else BY (i+1) bs
def C2 (blocks:List (List Row)):Prt:=⟨(BY 0 blocks).1,(BY 0 blocks).2⟩
def JD (lo hi:Int) (s:Str):Bool:=match s with | [x]=>inR x.toNat lo hi | _=>false
def Bq (t:Tag):Bool:=JD 97 100 t.key&&JD 112 122 t.val
def DV:Option Tag→List Tag→Bool
 | _,[]=>true
 | o,t::ts=>Bq t&&(match o with | some q=>By q.key t.key | none=>true)&&DV (some t) ts
def BC (n:List Tag):Bool:=DV none n&&inR n.length 1 3
theorem Kx {s:Str}(h:(s.length:Int)=1):∃ x,s=[x]:=by
 match s,h with
 | [x],_=>exact ⟨x,rfl⟩
 | [],h=>simp at h
 | x::y::r,h=>simp only [List.length_cons] at h; omega
theorem NW {lo hi:Int}{s:Str}(h:(s.length:Int)≠1):JD lo hi s=false:=by
 match s,h with
 | [x],h=>simp at h
 | [],_=>rfl
 | x::y::r,_=>rfl
theorem D4 {t:Tag}(h:(t.key.length:Int)≠1):Bq t=false:=by simp [Bq,NW h]
theorem DM {t:Tag}(h:(t.val.length:Int)≠1):Bq t=false:=by simp [Bq,NW h]
theorem O7 {t:Tag}{x y:UInt8}(hk:t.key=[x]) (hv:t.val=[y]):Bq t=(inR x.toNat 97 100&&inR y.toNat 112 122):=by simp [Bq,JD,hk,hv]
theorem JE (x y:UInt8):By [x] [y]=decide (x.toNat< y.toNat):=by
 unfold By Op.bytesLess Op.bytesLess
 by_cases h:x< y
 ·simp [h,UInt8.lt_iff_toNat_lt.1 h]
 ·have h2:¬ x.toNat< y.toNat:=fun h2=>h (UInt8.lt_iff_toNat_lt.2 h2)
  simp [h,h2]
theorem O8 (x y:UInt8):EV [x] [y]=decide (x.toNat≤y.toNat):=by
 have h:=JE x y
 unfold By at h
 unfold EV
 rw [h,Bool.eq_iff_iff]
 simp only [Bool.or_eq_true,decide_eq_true_eq,beq_iff_eq,List.cons.injEq,and_true]
 constructor
 ·rintro (h | rfl) <;> omega
 ·intro h1
  by_cases h2:x.toNat< y.toNat
  ·exact .inl h2
  ·exact .inr (UInt8.toNat_inj.1 AB)
theorem DW {t:Tag}(hk:(t.key.length:Int)=1) (hv:(t.val.length:Int)=1):Bq t=(!(By t.key [97])&&EV t.key [100] && !(By t.val [112])&&EV t.val [122]):=by
 obtain ⟨x,hx⟩:=Kx hk
 obtain ⟨y,hy⟩:=Kx hv
 rw [O7 hx hy,hx,hy,JE,O8,JE,O8]
 unfold inR
 rw [Bool.eq_iff_iff]
 simp
 omega
theorem E3 {t:Tag}(hk:(t.key.length:Int)=1) (h:By t.key [97]=true):Bq t=false:=by
 by_cases hv:(t.val.length:Int)=1
 ·rw [DW hk hv,h]; simp
 ·exact DM hv
theorem E4 {t:Tag}(hk:(t.key.length:Int)=1) (h:EV t.key [100]=false):Bq t=false:=by
 by_cases hv:(t.val.length:Int)=1
 ·rw [DW hk hv,h]; simp
 ·exact DM hv
theorem at1 {s:Str}{y:UInt8}(h:(s.length:Int)=1) (hy:s[0]? = some y):s=[y]:=by
 obtain ⟨x,rfl⟩:=Kx h
 simpa using hy
theorem It {lo hi:Int}{s:Str}{y:UInt8}(h:(s.length:Int)=1) (hy:s[0]? = some y):JD lo hi s=inR y.toNat lo hi:=by
 rw [at1 h hy]; rfl
theorem GF (t:Tag):Bq t=(JD 97 100 t.key&&JD 112 122 t.val):=rfl
theorem O9 (r:Row):∀ (xs out:List Row) (d:Bool),(Ci out r d xs).length≤out.length+xs.length+1∧(d=true→(Ci out r d xs).length≤out.length+xs.length):=by
 intro xs
 induction xs with
 | nil=>intro out d; cases d <;> simp [Ci]
 | cons x xs ih =>
   intro out d
   have h1:=ih (out++[r]++[x]) true
   have h2:=ih (out++[r]) true
   have h3:=ih (out++[x]) d
   have h4:=ih out d
   simp only [List.length_append,List.length_cons,List.length_nil] at h1 h2 h3 h4
   unfold Ci
   cases d <;> simp only [Bool.not_true,Bool.not_false,Bool.false_and,Bool.true_and,List.length_cons] <;> split <;> (try split) <;> constructor <;> (try intro hd) <;> (try cases hd) <;> first | omega | simp_all <;> omega
theorem C3 (b:List Row) (r:Row):(DR b r).length≤b.length+1:=by
 have:=(O9 r b [] false).1
 simpa [DR] using this
def Bm (id:Int):List Int→List (List Row)→List Row
 | i::is,b::bs=>if i==id then b else Bm id is bs
 | _,_=>[]
def partOf (p:Prt) (id:Int):List Row:=Bm id p.ids p.blocks
def prev {α:Type}(xs:List α) (k:Nat):Option α:=if k=0 then none else xs[k - 1]?
@[grind =] theorem OC {α:Type}(xs:List α) (k:Nat):prev xs (k+1)=xs[k]? := by simp [prev]
theorem Ld {α:Type}(xs:List α) (k:Nat) (h:0< k):prev xs k=xs[k - 1]? := by simp [prev]; omega
def CA:Option Int→List Int→List (List Row)→Bool
 | _,[],_=>true
 | o,i::is,b::bs=>inR i 1 6&&(match o with | some q=>decide (q< i) | none=>true)&&decide (0< b.length)&&Bp b&&CA (some i) is bs
 | _,_::_,[]=>false
def Az (p:Prt):Bool:=decide (p.ids.length=p.blocks.length)&&CA none p.ids p.blocks
def Bw (p:Prt) (n:Int):Bool:=Az p&&(match p.ids.getLast? with | some i=>decide (i≤n) | none=>false)
def Db (v:Int):Nat→List Int→Int
 | _,[]=>-1
 | i,x::xs=>if x==v then (i:Int) else Db v (i+1) xs
def Js:Int→List Int→Int
 | m,[]=>m
 | m,x::xs=>Js (if x > m then x else m) xs
def maxOf:List Int→Int
 | []=>0
 | x::xs=>Js x xs
def KC (t:Tag):Str:=t.key++[61]++t.val
def Fj:Nat→List Tag→Str
 | _,[]=>[]
 | i,t::ts=>(if i > 0 then [44] else [])++KC t++Fj (i+1) ts
def text (n:List Tag):Str:=Fj 0 n
def D7 (a b:Tag):Bool:=By a.key b.key || a.key==b.key&&By a.val b.val
def CK (id:Int) (o:List Row) (p:Prt):List Row:=Bg o (partOf p id)
def CV (id:Int) (o:List Row) (m:Smp):List Row:=if m.id==id then DR o m.row else o
def rowsOf (s:Sto) (id:Int):List Row:=s.mem.foldl (CV id) (s.parts.foldl (CK id) [])
def Be (a b:Prt) (n:Nat):List (List Row):=(List.range n).map (fun (i:Nat)=>Bg (partOf a ((i:Int)+1)) (partOf b ((i:Int)+1)))
def BW (a b:Prt):Prt:=C2 (Be a b 6)
theorem G6 (a b:Prt) (n:Nat):Be a b (n+1)=Be a b n++[Bg (partOf a ((n:Int)+1)) (partOf b ((n:Int)+1))]:=by simp [Be,List.range_succ]
theorem DX (a b:Prt) (n:Nat):(Be a b n).length=n:=by simp [Be]
def Fc (n:List Tag):Prop:=n.length≤1000∧∀ t∈n,t.key.length≤1000∧t.val.length≤1000
def Ck (p:Prt):Prop:=p.ids.length=p.blocks.length∧p.blocks.length≤1000∧∀ b∈p.blocks,b.length≤1000
theorem Gk (a b:List Row):(Bg a b).length≤a.length+b.length:=by
 unfold Bg
 induction b generalizing a with
 | nil=>simp
 | cons x xs ih =>
   simp only [List.foldl_cons,List.length_cons]
   have h1:=ih (DR a x)
   have h2:=C3 a x
   omega
theorem GG (id:Int):∀ (is:List Int) (bs:List (List Row)),Bm id is bs=[]∨Bm id is bs∈bs:=by
 intro is
 induction is with
 | nil=>intro bs; left; unfold Bm; rfl
 | cons i is ih =>
   intro bs
   cases bs with
   | nil=>left; unfold Bm; rfl
   | cons b bs =>
     unfold Bm
     split
     ·right; simp
     ·rcases ih bs with h | h
      ·left; exact h
      ·right; exact List.mem_cons_of_mem _ h
theorem C4 {p:Prt}(h:Ck p) (id:Int):(partOf p id).length≤1000:=by
 rcases GG id p.ids p.blocks with h1 | h1
 ·unfold partOf; rw [h1]; simp
 ·exact h.2.2 _ h1
theorem Lf {a b:Prt}(ha:Ck a) (hb:Ck b) (n:Nat):∀ x∈Be a b n,x.length≤2000:=by
 intro x hx
 simp only [Be,List.mem_map] at hx
 obtain ⟨i,_,rfl⟩:=hx
 have h1:=Gk (partOf a ((i:Int)+1)) (partOf b ((i:Int)+1))
 have h2:=C4 ha ((i:Int)+1)
 have h3:=C4 hb ((i:Int)+1)
 omega
def C1 (num:Int):Nat→List Fil→Int
 | _,[]=>-1
 | i,f::fs=>if f.num==num then (i:Int) else C1 num (i+1) fs
def Av (d:Dsk) (num:Int):Int:=C1 num 0 d.files
def nmF (t:Str):Nat→List (List Tag)→Int
 | _,[]=>0
 | i,x::xs=>if text x==t then (i:Int)+1 else nmF t (i+1) xs
def Fe (ix:Idx) (n:List Tag):Int:=nmF (text n) 0 ix.names
theorem EX (a b:Pst):a=b↔a.tag=b.tag∧a.ids=b.ids:=by cases a; cases b; simp
end Go.Proofs.YtggnnidleedpaaaGreat
namespace Go.Proofs.YtggnnidleedpaaaGreat
set_option maxRecDepth 100000
set_option maxHeartbeats 4000000
variable {w:World} {F:Nat→Prop} {a1 a2:Option Addr} {n1 c1 n2 c2:Nat}
theorem CM (n:Int) (low:Int) (high:Int){F:Nat→Prop}   : Calls Tryz.prog 48 [.int .i64 n,.int .i64 low,.int .i64 high].toArray w (BB fun rv w'=>rv=.bool (inR n low high)∧Ext w w'):=by
 exact goT func48<|.s<|.g<|.r 1<|.d<|.s<|.g<|.r 2<|.bp (n≥low) (fun C=>.r 6<|.d<|.rt func48 results48 (.bool (decide (n≤high))) ⟨(AG (by simp [inR]; omega)),(Chg.refl _ _)⟩) fun C=>.r 6<|.d<|.rt func48 results48 (.bool false) ⟨(AG (by simp [inR]; omega)),(Chg.refl _ _)⟩
theorem C5 (n:Int) (low:Int) (high:Int){F:Nat→Prop}   : Calls Tryz.prog 105 [.int .i64 n,.int .i64 low,.int .i64 high].toArray w (BB fun rv w'=>rv=.bool (inR n low high)∧Ext w w'):=by
 exact goT func105<|.s<|.g<|.r 1<|.d<|.s<|.g<|.r 2<|.bp (n≥low) (fun C=>.r 6<|.d<|.rt func105 results105 (.bool (decide (n≤high))) ⟨(AG (by simp [inR]; omega)),(Chg.refl _ _)⟩) fun C=>.r 6<|.d<|.rt func105 results105 (.bool false) ⟨(AG (by simp [inR]; omega)),(Chg.refl _ _)⟩
theorem FH (r:Row){F:Nat→Prop}   : Calls Tryz.prog 87 [.agg #[.int .i64 r.t,.int .i64 r.v]].toArray w (BB fun rv w'=>rv=.bool (Bi r)∧Ext w w'):=by
 refine goT func87<|.s<|.g<|.np 56 [vI r.t,vI r.v] fun aj af ac J E ae=>?_
 have C:=J
 refine .r 1<|.d<|.s<|.g<|.r 1<|.lb E<|.cl (CM r.t 0 99 (w:=af) (F:=all)) ?_
 rintro ak ag ⟨rfl,W⟩
 replace ⟨E,C⟩:=(se [] W).g2 E C
 cases aa:(inR r.t 0 99)
 ·exact .r 6<|.d<|.rt func87 results87 (.bool false) ⟨(AG (by simp_all [Bi])),C⟩
 refine .r 2<|.lb E<|.cl (CM r.v (-99) 99 (w:=ag) (F:=all)) ?_
 rintro al am ⟨rfl,ab⟩
 replace C:=(se [] ab).g1 C
 exact .r 2<|.d<|.rt func87 results87 (.bool (inR r.v (-99) 99)) ⟨(AG (by simp_all [Bi])),C⟩
theorem Ky (r:Row){F:Nat→Prop}   : Calls Tryz.prog 107 [.agg #[.int .i64 r.t,.int .i64 r.v]].toArray w (BB fun rv w'=>rv=.bool (Bi r)∧Ext w w'):=by
 refine goT func107<|.s<|.g<|.np 56 [vI r.t,vI r.v] fun aj af ac J E ae=>?_
 have C:=J
 refine .r 1<|.d<|.s<|.g<|.r 1<|.lb E<|.cl (C5 r.t 0 99 (w:=af) (F:=all)) ?_
 rintro ak ag ⟨rfl,W⟩
 replace ⟨E,C⟩:=(se [] W).g2 E C
 cases aa:(inR r.t 0 99)
 ·exact .r 6<|.d<|.rt func107 results107 (.bool false) ⟨(AG (by simp_all [Bi])),C⟩
 refine .r 2<|.lb E<|.cl (C5 r.v (-99) 99 (w:=ag) (F:=all)) ?_
 rintro al am ⟨rfl,ab⟩
 replace C:=(se [] ab).g1 C
 exact .r 2<|.d<|.rt func107 results107 (.bool (inR r.v (-99) 99)) ⟨(AG (by simp_all [Bi])),C⟩
theorem Ca (names:List (List Tag)) (h1:RepS w F a1 n1 c1 names) (p0:names.length≤1000000) (p1:∀ n∈names,n.length≤1000000):Calls Tryz.prog 111 [.slice a1 n1 c1].toArray w (BB fun rv w'=>VO 43 w.heap.size w' (names:List (List Tag)) rv∧Ext w w'):=by
 refine goT func111 ?_
 obtain ⟨rfl,bm,h1⟩:=h1.tp
 refine .s<|.g<|.r 1<|.d<|.s<|.g<|.ns 0 43 [] fun ab ah ag ai aE aF=>?_
 have aG:=Ae ag (Nat.le_refl _)
 have aH:Cov nil w ab:=Bf ag (Nat.le_refl _)
 replace h1:=(sn [] ai ag).g1 h1
 have C:=ai
 have aI:Own (α:=List Tag) ah ab 43 (nin (ge w.heap.size) [ab]) 0 0 []:=Own.Aj aE
 refine .r 1<|.d<|.s<|.s<|.g<|.r 1<|.d<|.b 0<|T.loop (X:=(List (List Tag)) × Nat × Nat × Nat × Nat) (([]:List (List Tag)),ab,0,0,0) (fun (out,r_out,n_out,c_out,i)=>[(0,.slice a1 names.length c1),(3,vS r_out n_out c_out),(4,vI (i:Int))]) (fun (out,r_out,n_out,c_out,i) aq=>Chg (ins [ab]) ah aq∧Own aq r_out 43 (nin (ge w.heap.size) [r_out]) n_out c_out out∧OrB r_out ab ah.heap.size∧(i≤names.length)∧(out++names.drop i=names)) (fun (out,r_out,n_out,c_out,i)=>names.length - i) AA ⟨AA,AA,AA,trivial⟩ ⟨Chg.refl _ _,aI,BU,AB,AF⟩ ?_
 rintro ⟨out,r_out,n_out,c_out,i⟩ bE aq ⟨J,E,ae,bn,bo⟩ aj
 have aJ:=Bz ae aG C.size
 have bq:=BA ae aH C.size
 have aK:Cov (ins [ab]) ah ab:=⟨.inl AI⟩
 have br:=BA ae aK (Nat.le_refl _)
 have aw:Mv [ab] [r_out] ah aq:=Mv.inl J (all_cons AI all_nil) (all_cons (Bb ae AI) all_nil)
 replace ⟨h1,C⟩:=(sp aw J).g2 h1 C
 have bt:=E.len
 refine .s<|.s<|.g<|.r 3<|.bp ((i:Int)< (names.length:Int)) (fun aL=>?_) (fun aL=>.d<|.cf<|.x 0 rfl<|.s<|.g<|.r 2<|.d<|.rt func111 results111 (vS r_out n_out c_out) ⟨(VO.of E (by grind) aJ),C⟩)
 refine .d<|.ct<|.sk<|.s<|.b 1<|.g<|.r 1<|.ns 0 67 [] fun ar ba aa ax aM aN=>?_
 have aO:=AX aa E.lt
 have aP:=Ae aa C.size
 have bv:=C.cn aa
 have bw:=J.cn aa
 replace ⟨h1,E,C,J⟩:=(sn [r_out] ax aa).g4 h1 E C J
 have aQ:Own (α:=Tag) ba ar 67 (nin (ge w.heap.size) [ar,r_out]) 0 0 []:=Own.Aj aM
 refine .r 2 ?_
 have aR:i< names.length:=AB
 refine .ix i 1 h1 aR ?_
 obtain ⟨au,ak⟩:∃ y,names[i]? = some y:=⟨_,AU AB⟩
 have bz:=Ai ak; have aZ:=AV ak
 obtain ⟨_,⟨bF,bG,bH,rfl,aC⟩,aS⟩:=h1.elem i au ak
 have aT:=aC.len
 subst aT
 refine .lh 0 aS<|RG.BG (T:=43) (ty:=43) JA aQ aC AA AA (fun b h e=>h.2 (e▸AI)) (by grind) fun av bc bI W ac ay=>?_
 have bB:=Ag ac aO E.lt
 have aU:=Bt ac aP C.size
 replace ⟨E,C,J⟩:=(sa [ar,r_out] ay ac).g3 E C J
 replace W:=W.rn ar
 refine .ns 1 43 [vS av (0+au.length) bc] fun aV bd al az aW aX=>?_
 have aA:=AX al E.lt
 have aY:=Ae al C.size
 replace ⟨E,W,C,J⟩:=(se [av,r_out] az).g4 E W C J
 have bg:=W.sl aU
 replace E:=(sd bd [av,r_out] av).g1 E
 have am:nin (ge w.heap.size) [r_out] aV∧aV≠r_out:=BR aY (all_cons aA all_nil) aA
 refine RG.Ax (T:=25) (ty:=25) (y:=([]++au)) E aW AA AA ⟨_,_,_,rfl,bg.oi⟩ am (by grind) fun bh bi bJ af ao aB=>?_
 have aD:=CB ao ae J.size
 replace ⟨C,J⟩:=(s1 aB).g2 C J
 replace af:=af.rn r_out
 exact .r 1<|.d<|.ib 1<|.g<|.r 1<|.it ((i:Int)+1)<|.r 1<|.d<|aj ((out++[([]++au)]),bh,n_out+1,bi,i+1) _ _ ⟨AA,AA,AA,trivial⟩ ⟨J,af,aD,AB,(by grind)⟩ (by (simp only []; omega))
theorem Ak (names:List (List Tag)) (h1:RepS w F a1 n1 c1 names) (p0:names.length≤1000000) (p1:∀ n∈names,n.length≤1000000):Calls Tryz.prog 80 [.slice a1 n1 c1].toArray w (BB fun rv w'=>VO 43 w.heap.size w' (names:List (List Tag)) rv∧Ext w w'):=by
 refine goT func80 ?_
 obtain ⟨rfl,bm,h1⟩:=h1.tp
 refine .s<|.g<|.r 1<|.d<|.s<|.g<|.ns 0 43 [] fun ab ah ag ai aE aF=>?_
 have aG:=Ae ag (Nat.le_refl _)
 have aH:Cov nil w ab:=Bf ag (Nat.le_refl _)
 replace h1:=(sn [] ai ag).g1 h1
 have C:=ai
 have aI:Own (α:=List Tag) ah ab 43 (nin (ge w.heap.size) [ab]) 0 0 []:=Own.Aj aE
 refine .r 1<|.d<|.s<|.s<|.g<|.r 3<|.d<|.b 0<|T.loop (X:=(List (List Tag)) × Nat × Nat × Nat × Nat) (([]:List (List Tag)),ab,0,0,0) (fun (out,r_out,n_out,c_out,k)=>[(3,vS r_out n_out c_out),(7,.slice a1 names.length c1),(8,vI (names.length:Int)),(9,vI (k:Int))]) (fun (out,r_out,n_out,c_out,k) ar=>Chg (ins [ab]) ah ar∧Own ar r_out 43 (nin (ge w.heap.size) [r_out]) n_out c_out out∧OrB r_out ab ah.heap.size∧(k≤names.length)∧(out++names.drop k=names)) (fun (out,r_out,n_out,c_out,k)=>names.length - k) AA ⟨AA,AA,AA,AA,trivial⟩ ⟨Chg.refl _ _,aI,BU,AB,AF⟩ ?_
 rintro ⟨out,r_out,n_out,c_out,k⟩ bE ar ⟨J,E,ae,bn,bo⟩ aj
 have aJ:=Bz ae aG C.size
 have bq:=BA ae aH C.size
 have aK:Cov (ins [ab]) ah ab:=⟨.inl AI⟩
 have br:=BA ae aK (Nat.le_refl _)
 have ax:Mv [ab] [r_out] ah ar:=Mv.inl J (all_cons AI all_nil) (all_cons (Bb ae AI) all_nil)
 replace ⟨h1,C⟩:=(sp ax J).g2 h1 C
 have bt:=E.len
 refine .s<|.g<|.bp ((k:Int)< (names.length:Int)) (fun aL=>?_) (fun aL=>.d<|.s<|.cf<|.x 0 rfl<|.s<|.g<|.r 2<|.d<|.rt func80 results80 (vS r_out n_out c_out) ⟨(VO.of E (by grind) aJ),C⟩)
 refine .d<|.s<|.ct<|.sk<|.s<|.b 1<|.s<|.g ?_
 have aM:k< names.length:=AB
 refine .ix k 1 h1 aM ?_
 obtain ⟨au,ak⟩:∃ y,names[k]? = some y:=⟨_,AU AB⟩
 have bv:=Ai ak; have aZ:=AV ak
 obtain ⟨_,⟨bF,bG,bH,rfl,al⟩,aN⟩:=h1.elem k au ak
 have aO:=al.len
 subst aO
 refine .lh 0 aN<|.r 1<|.d<|.g<|.r 1<|.ns 0 67 [] fun av ba aa ay aP aQ=>?_
 have aR:=AX aa E.lt
 have aS:=Ae aa C.size
 have bz:=C.cn aa
 have bA:=J.cn aa
 replace ⟨E,al,C,J⟩:=(sn [r_out] ay aa).g4 E al C J
 have aT:Own (α:=Tag) ba av 67 (nin (ge w.heap.size) [av,r_out]) 0 0 []:=Own.Aj aP
 refine .r 1<|RG.BG (T:=43) (ty:=43) JA aT al AA AA (fun b h e=>h.2 (e▸AI)) (by grind) fun aw bc bI W ac az=>?_
 have bB:=Ag ac aR E.lt
 have aU:=Bt ac aS C.size
 replace ⟨E,C,J⟩:=(sa [av,r_out] az ac).g3 E C J
 replace W:=W.rn av
 refine .ns 1 43 [vS aw (0+au.length) bc] fun aV bd am aA aW aX=>?_
 have aB:=AX am E.lt
 have aY:=Ae am C.size
 replace ⟨E,W,C,J⟩:=(se [aw,r_out] aA).g4 E W C J
 have bg:=W.sl aU
 replace E:=(sd bd [aw,r_out] aw).g1 E
 have ao:nin (ge w.heap.size) [r_out] aV∧aV≠r_out:=BR aY (all_cons aB all_nil) aB
 refine RG.Ax (T:=25) (ty:=25) (y:=([]++au)) E aW AA AA ⟨_,_,_,rfl,bg.oi⟩ ao (by grind) fun bh bi bJ af aq aC=>?_
 have aD:=CB aq ae J.size
 replace ⟨C,J⟩:=(s1 aC).g2 C J
 replace af:=af.rn r_out
 exact .r 1<|.d<|.ib 1<|.g<|.it ((k:Int)+1)<|.r 1<|.d<|aj ((out++[([]++au)]),bh,n_out+1,bi,k+1) _ _ ⟨AA,AA,AA,AA,trivial⟩ ⟨J,af,aD,AB,(by grind)⟩ (by (simp only []; omega))
theorem FI (b:List Row) (r:Row) (h1:RepS w F a1 n1 c1 b) (p0:b.length≤1000000):Calls Tryz.prog 147 [.slice a1 n1 c1,.agg #[.int .i64 r.t,.int .i64 r.v]].toArray w (BB fun rv w'=>VL (ge w.heap.size) w' (DR b r:List Row) rv∧Ext w w'):=by
 refine goT func147 ?_
 obtain ⟨rfl,dg,h1⟩:=h1.tp
 refine .s<|.g<|.np 56 [vI r.t,vI r.v] fun aa dN bh aI C cj=>?_
 replace h1:=(sn [] aI bh).g1 h1
 have E:=aI
 refine .r 1<|.d<|.s<|.g<|.ns 0 56 [] fun az aJ aA bi ck cm=>?_
 have co:=AX aA C.lt
 have cp:=Ae aA E.size
 have cq:=E.cn aA
 replace ⟨h1,C,E⟩:=(sn [aa] bi aA).g3 h1 C E
 have cr:Own (α:=Row) aJ az 56 (nin (ge w.heap.size) [az,aa]) 0 0 []:=Own.Aj ck
 refine .r 1<|.d<|.s<|.g<|.r 1<|.d<|.s<|.s<|.g<|.r 1<|.d<|.b 0<|T.loop (X:=(List Row) × Nat × Nat × Nat × Bool × Nat) (([]:List Row),az,0,0,false,0) (fun (out,r_out,n_out,c_out,put,i)=>[(0,.slice a1 b.length c1),(3,.pointer (some ⟨aa,0,none⟩)),(5,vS r_out n_out c_out),(6,.bool put),(7,vI (i:Int))]) (fun (out,r_out,n_out,c_out,put,i) bg=>Chg (ins [az]) aJ bg∧Own bg r_out 56 (nin (ge w.heap.size) [r_out,aa]) n_out c_out out∧OrB r_out az aJ.heap.size∧(i≤b.length)∧(out.length≤i+1)∧(put=false→out.length≤i)∧(Ci out r put (b.drop i)=DR b r)) (fun (out,r_out,n_out,c_out,put,i)=>b.length - i) AA ⟨AA,AA,AA,AA,AA,trivial⟩ ⟨Chg.refl _ _,cr,BU,(by simp [DR]),(by simp [DR]),(by simp [DR]),(by simp [DR])⟩ ?_
 rintro ⟨out,r_out,n_out,c_out,put,i⟩ dO bg ⟨J,W,af,dh,dj,dm,dp⟩ ab
 have bj:=Ay af co C.lt
 have bk:=Bz af cp E.size
 have cu:=BA af cq E.size
 have cw:Cov (ins [az]) aJ az:=⟨.inl AI⟩
 have cx:=BA af cw (Nat.le_refl _)
 have bm:Mv [az,aa] [r_out,aa] aJ bg:=Mv.inl J (all_cons AI all_nil) (all_cons (Bb af AI) (all_cons (.inl AJ) all_nil))
 replace ⟨h1,C,E⟩:=(sp bm J).g3 h1 C E
 have dq:=W.len; have dr:=W.max
 refine .s<|.s<|.g<|.r 3<|.bp ((i:Int)< (b.length:Int)) (fun cy=>?_) (fun cy=>?_)
 ·refine .d<|.ct<|.sk<|.s<|.b 1<|.s<|.s<|.gd nil 10 fun dP bn=>?_
  replace ⟨h1,C,W,E,J⟩:=(se [r_out,aa] bn).g5 h1 C W E J
  cases dt:put
  ·refine .r [0,1,2,3,4] ?_
   have cz:i< b.length:=AB
   refine .ix 5 i 2 h1 cz<|.r [6] ?_
   obtain ⟨ae,ah⟩:∃ y,b[i]? = some y:=⟨_,AU AB⟩
   have du:=Ai ah
   obtain ⟨_,rfl,cA⟩:=h1.elem i ae ah
   refine .lh 7 0 cA id<|.r [8]<|.lb 9 C id<|.d fun dQ bo=>?_
   replace ⟨h1,C,W,E,J⟩:=(se [r_out,aa] bo).g5 h1 C W E J
   refine .bp (ae.t≥r.t) (fun cB=>?_) (fun cB=>?_)
   ·refine .r 1<|.d<|.ct<|.s<|.g<|.r 1<|.ln C<|.ns 1 56 [vI r.t,vI r.v] fun cC dR aC bq cD cE=>?_
    have cF:=AX aC C.lt
    have br:=AX aC W.lt
    have cG:=Ae aC E.size
    replace ⟨h1,C,W,E,J⟩:=(se [r_out,aa] bq).g5 h1 C W E J
    have aK:nin (ge w.heap.size) [r_out,aa] cC∧cC≠r_out:=BR cG (all_cons br (all_cons cF all_nil)) br
    refine RG.Ax (T:=62) (ty:=62) (y:=r) W cD AA AA rfl aK AB fun aB cV dS ac ag bt=>?_
    have dv:=Ag ag bj C.lt
    have dw:=Aw ag cu E.size
    have dx:=Aw ag cx J.size
    have bu:=CB ag af J.size
    replace ⟨h1,C,E,J⟩:=(sa [r_out,aa] bt ag).g4 h1 C E J
    replace ac:=ac.rn r_out
    have dy:=ac.len; have dz:=ac.max
    refine .r 1<|.d<|.g<|.r 1<|.d<|.s<|.gd nil 7 fun dT bv=>?_
    replace ⟨h1,C,ac,E,J⟩:=(se [aB,aa] bv).g5 h1 C ac E J
    refine .r [0,1] ?_
    have cH:i< b.length:=AB
    refine .ix 2 i 2 h1 cH<|.r [3] ?_
    obtain ⟨_,rfl,cI⟩:=h1.elem i ae ah
    refine .lh 4 0 cI id<|.r [5]<|.lb 6 C id<|.d fun dU aL=>?_
    replace ⟨h1,C,ac,E,J⟩:=(se [aB,aa] aL).g5 h1 C ac E J
    refine .ne ae.t r.t (fun bC=>?_) (fun bC=>.d<|.cf<|.sk<|.ib 1<|.g<|.r 1<|.it ((i:Int)+1)<|.r 1<|.d<|ab ((out++[r]),aB,n_out+1,cV,true,i+1) _ _ ⟨AA,AA,AA,AA,AA,trivial⟩ ⟨J,ac,bu,(by grind [Ci]),(by grind [Ci]),(by grind [Ci]),(by grind [Ci])⟩ (by (simp only []; omega)))
    refine .d<|.ct<|.g<|.r 3 ?_
    have bD:i< b.length:=AB
    refine .ix i 2 h1 bD ?_
    obtain ⟨_,rfl,bE⟩:=h1.elem i ae ah
    refine .lg 0 bE<|.ns 1 56 [vI ae.t,vI ae.v] fun bw dA ao aM bF bG=>?_
    have bH:=AX ao C.lt
    have aN:=AX ao ac.lt
    have bI:=Ae ao E.size
    replace ⟨h1,C,ac,E,J⟩:=(se [aB,aa] aM).g5 h1 C ac E J
    have aE:nin (ge w.heap.size) [aB,aa] bw∧bw≠aB:=BR bI (all_cons aN (all_cons bH all_nil)) aN
    refine RG.Ax (T:=62) (ty:=62) (y:=ae) ac bF AA AA rfl aE AB fun cJ cK dB ai aq aO=>?_
    have bJ:=CB aq bu J.size
    replace ⟨h1,C,E,J⟩:=(sa [aB,aa] aO aq).g4 h1 C E J
    replace ai:=ai.rn aB
    have cW:=ai.len
    exact .r 1<|.d<|.ib 1<|.g<|.r 1<|.it ((i:Int)+1)<|.r 1<|.d<|ab (((out++[r])++[ae]),cJ,n_out+1+1,cK,true,i+1) _ _ ⟨AA,AA,AA,AA,AA,trivial⟩ ⟨J,ai,bJ,(by grind [Ci]),(by grind [Ci]),(by grind [Ci]),(by grind [Ci])⟩ (by (simp only []; omega))
   refine .r 1<|.d<|.cf<|.sk<|.s<|.gd nil 7 fun dC aP=>?_
   replace ⟨h1,C,W,E,J⟩:=(se [r_out,aa] aP).g5 h1 C W E J
   refine .r [0,1] ?_
   have bK:i< b.length:=AB
   refine .ix 2 i 2 h1 bK<|.r [3] ?_
   obtain ⟨_,rfl,bL⟩:=h1.elem i ae ah
   refine .lh 4 0 bL id<|.r [5]<|.lb 6 C id<|.d fun dD aQ=>?_
   replace ⟨h1,C,W,E,J⟩:=(se [r_out,aa] aQ).g5 h1 C W E J
   refine .ne ae.t r.t (fun bM=>?_) (fun bM=>.d<|.cf<|.sk<|.ib 1<|.g<|.r 1<|.it ((i:Int)+1)<|.r 1<|.d<|ab (out,r_out,n_out,c_out,false,i+1) _ _ ⟨AA,AA,AA,AA,AA,trivial⟩ ⟨J,W,af,(by grind [Ci]),(by grind [Ci]),(by grind [Ci]),(by grind [Ci])⟩ AB)
   refine .d<|.ct<|.g<|.r 3 ?_
   have bN:i< b.length:=AB
   refine .ix i 2 h1 bN ?_
   obtain ⟨_,rfl,bO⟩:=h1.elem i ae ah
   refine .lg 0 bO<|.ns 1 56 [vI ae.t,vI ae.v] fun bz dE ar aR bP bQ=>?_
   have bR:=AX ar C.lt
   have aS:=AX ar W.lt
   have bS:=Ae ar E.size
   replace ⟨h1,C,W,E,J⟩:=(se [r_out,aa] aR).g5 h1 C W E J
   have aF:nin (ge w.heap.size) [r_out,aa] bz∧bz≠r_out:=BR bS (all_cons aS (all_cons bR all_nil)) aS
   refine RG.Ax (T:=62) (ty:=62) (y:=ae) W bP AA AA rfl aF AB fun cL cM dF aj au aT=>?_
   have bT:=CB au af J.size
   replace ⟨h1,C,E,J⟩:=(sa [r_out,aa] aT au).g4 h1 C E J
   replace aj:=aj.rn r_out
   have cY:=aj.len
   exact .r 1<|.d<|.ib 1<|.g<|.r 1<|.it ((i:Int)+1)<|.r 1<|.d<|ab ((out++[ae]),cL,n_out+1,cM,false,i+1) _ _ ⟨AA,AA,AA,AA,AA,trivial⟩ ⟨J,aj,bT,(by grind [Ci]),(by grind [Ci]),(by grind [Ci]),(by grind [Ci])⟩ (by (simp only []; omega))
  refine .r [0,1,2]<|GA.skip AA fun dG aU=>?_
  replace ⟨h1,C,W,E,J⟩:=(se [r_out,aa] aU).g5 h1 C W E J
  refine .r 2<|.d<|.cf<|.sk<|.s<|.gd nil 7 fun dH aV=>?_
  replace ⟨h1,C,W,E,J⟩:=(se [r_out,aa] aV).g5 h1 C W E J
  refine .r [0,1] ?_
  have bU:i< b.length:=AB
  refine .ix 2 i 2 h1 bU<|.r [3] ?_
  obtain ⟨ak,av⟩:∃ y,b[i]? = some y:=⟨_,AU AB⟩
  have c7:=Ai av
  obtain ⟨_,rfl,bV⟩:=h1.elem i ak av
  refine .lh 4 0 bV id<|.r [5]<|.lb 6 C id<|.d fun dI aW=>?_
  replace ⟨h1,C,W,E,J⟩:=(se [r_out,aa] aW).g5 h1 C W E J
  refine .ne ak.t r.t (fun bW=>?_) (fun bW=>.d<|.cf<|.sk<|.ib 1<|.g<|.r 1<|.it ((i:Int)+1)<|.r 1<|.d<|ab (out,r_out,n_out,c_out,true,i+1) _ _ ⟨AA,AA,AA,AA,AA,trivial⟩ ⟨J,W,af,(by grind [Ci]),(by grind [Ci]),(by grind [Ci]),(by grind [Ci])⟩ (by (simp only []; omega)))
  refine .d<|.ct<|.g<|.r 3 ?_
  have bX:i< b.length:=AB
  refine .ix i 2 h1 bX ?_
  obtain ⟨_,rfl,bY⟩:=h1.elem i ak av
  refine .lg 0 bY<|.ns 1 56 [vI ak.t,vI ak.v] fun bA dJ aw aX bZ b0=>?_
  have b6:=AX aw C.lt
  have aY:=AX aw W.lt
  have b7:=Ae aw E.size
  replace ⟨C,W,E,J⟩:=(se [r_out,aa] aX).g4 C W E J
  have aG:nin (ge w.heap.size) [r_out,aa] bA∧bA≠r_out:=BR b7 (all_cons aY (all_cons b6 all_nil)) aY
  refine RG.Ax (T:=62) (ty:=62) (y:=ak) W bZ AA AA rfl aG AB fun cO cP dK al aD aZ=>?_
  have b8:=CB aD af J.size
  replace ⟨C,E,J⟩:=(s1 aZ).g3 C E J
  replace al:=al.rn r_out
  have c8:=al.len
  exact .r 1<|.d<|.ib 1<|.g<|.r 1<|.it ((i:Int)+1)<|.r 1<|.d<|ab ((out++[ak]),cO,n_out+1,cP,true,i+1) _ _ ⟨AA,AA,AA,AA,AA,trivial⟩ ⟨J,al,b8,(by grind [Ci]),(by grind [Ci]),(by grind [Ci]),(by grind [Ci])⟩ (by (simp only []; omega))
 refine .d<|.cf<|.x 0 rfl<|.s<|.s<|.g ?_
 cases da:put
 ·refine .r 2<|.d<|.ct<|.g<|.r 1<|.ln C<|.ns 1 56 [vI r.t,vI r.v] fun bB dL ax ba b9 cd=>?_
  have ce:=AX ax C.lt
  have bc:=AX ax W.lt
  have cg:=Ae ax E.size
  replace ⟨C,W,E⟩:=(se [r_out,aa] ba).g3 C W E
  have aH:nin (ge w.heap.size) [r_out,aa] bB∧bB≠r_out:=BR cg (all_cons bc (all_cons ce all_nil)) bc
  refine RG.Ax (T:=62) (ty:=62) (y:=r) W b9 AA AA rfl aH AB fun cQ cR dM am ay bd=>?_
  have db:=Ag ay bj C.lt
  have ci:=Bt ay bk E.size
  replace E:=(s1 bd).g1 E
  replace am:=am.rn r_out
  refine .r 1<|.d<|.s<|.g<|.r 2<|.d ?_
  have cS:=am.sl ci
  exact .rt func147 results147 (vS cQ (n_out+1) cR) ⟨(cS.vl (by grind [Ci]) (fun _ _ h=>h.1)),E⟩
 refine .r 2<|.d<|.cf<|.sk<|.s<|.g<|.r 2<|.d ?_
 have cT:=W.sl bk
 exact .rt func147 results147 (vS r_out n_out c_out) ⟨(cT.vl (by grind [Ci]) (fun _ _ h=>h.1)),E⟩
theorem EN (t:Tag){F:Nat→Prop}   : Calls Tryz.prog 104 [.agg #[.string (bs t.key),.string (bs t.val)]].toArray w (BB fun rv w'=>rv=.bool (Bq t)∧Ext w w'):=by
 refine goT func104<|.s<|.g<|.np 67 [vT t.key,vT t.val] fun ax al ah aa E ai=>?_
 have C:=aa
 refine .r 1<|.d<|.s<|.g<|.r 1<|.lb E<|RG.eqv (v:=vI (t.key.length:Int)) AA (G3 t.key)<|.eq (t.key.length:Int) 1 (fun aj=>?_) (fun aj=>.r 21<|.d<|.rt func104 results104 (.bool false) ⟨(AG (by grind [D4,DM,GF,It])),C⟩)
 refine .r 2<|.lb E<|RG.eqv (v:=vI (t.val.length:Int)) AA (G3 t.val)<|.eq (t.val.length:Int) 1 (fun ak=>?_) (fun ak=>.r 16<|.d<|.rt func104 results104 (.bool false) ⟨(AG (by grind [D4,DM,GF,It])),C⟩)
 refine .r 3<|.lb E ?_
 obtain ⟨J,ab⟩:∃ y,t.key[0]? = some y:=⟨_,AU AB⟩
 have ao:=UInt8.toNat_lt J
 refine RG.Kt (t:=9) (s:=t.key) (k:=.i64) (i:=0) 0 AA AA AB ab<|.it ((J.toNat:Int))<|.cl (C5 (J.toNat:Int) 97 100 (w:=al) (F:=all)) ?_
 rintro ay am ⟨rfl,ac⟩
 replace ⟨E,C⟩:=(se [] ac).g2 E C
 cases ae:(inR (J.toNat:Int) 97 100)
 ·exact .r 9<|.d<|.rt func104 results104 (.bool false) ⟨(AG (by grind [D4,DM,GF,It])),C⟩
 refine .r 3<|.lb E ?_
 obtain ⟨W,af⟩:∃ y,t.val[0]? = some y:=⟨_,AU AB⟩
 have av:=UInt8.toNat_lt W
 refine RG.Kt (t:=9) (s:=t.val) (k:=.i64) (i:=0) 0 AA AA AB af<|.it ((W.toNat:Int))<|.cl (C5 (W.toNat:Int) 112 122 (w:=am) (F:=all)) ?_
 rintro az aA ⟨rfl,ag⟩
 replace C:=(se [] ag).g1 C
 exact .r 2<|.d<|.rt func104 results104 (.bool (inR (W.toNat:Int) 112 122)) ⟨(AG (by grind [D4,DM,GF,It])),C⟩
theorem Kz (t:Tag){F:Nat→Prop}   : Calls Tryz.prog 138 [.agg #[.string (bs t.key),.string (bs t.val)]].toArray w (BB fun rv w'=>rv=.bool (Bq t)∧Ext w w'):=by
 refine goT func138<|.s<|.g<|.np 67 [vT t.key,vT t.val] fun ah ai W J C aa=>?_
 have E:=J
 refine .r 1<|.d<|.s<|.g<|.r 1<|.lb C<|RG.eqv (v:=vI (t.key.length:Int)) AA (G3 t.key)<|.eq (t.key.length:Int) 1 (fun ab=>?_) (fun ab=>.r 27<|.d<|.rt func138 results138 (.bool false) ⟨(AG (by grind [D4,DM,DW,E3,E4])),E⟩)
 refine .r 2<|.lb C<|RG.eqv (v:=.bool (!(By t.key [97]))) AA (Qx t.key [97]) ?_
 cases ae:(By t.key [97])
 ·refine .r 3<|.lb C<|RG.eqv (v:=.bool ((EV t.key [100]))) AA (Tf t.key [100]) ?_
  cases af:(EV t.key [100])
  ·exact .r 18<|.d<|.rt func138 results138 (.bool false) ⟨(AG (by grind [D4,DM,DW,E3,E4])),E⟩
  refine .r 3<|.lb C<|RG.eqv (v:=vI (t.val.length:Int)) AA (G3 t.val)<|.eq (t.val.length:Int) 1 (fun ac=>?_) (fun ac=>.r 12<|.d<|.rt func138 results138 (.bool false) ⟨(AG (by grind [D4,DM,DW,E3,E4])),E⟩)
  refine .r 3<|.lb C<|RG.eqv (v:=.bool (!(By t.val [112]))) AA (Qx t.val [112]) ?_
  cases ag:(By t.val [112])
  ·exact .r 3<|.lb C<|RG.eqv (v:=.bool ((EV t.val [122]))) AA (Tf t.val [122])<|.r 2<|.d<|.rt func138 results138 (.bool (EV t.val [122])) ⟨(AG (by grind [D4,DM,DW,E3,E4])),E⟩
  exact .r 7<|.d<|.rt func138 results138 (.bool false) ⟨(AG (by grind [D4,DM,DW,E3,E4])),E⟩
 exact .r 23<|.d<|.rt func138 results138 (.bool false) ⟨(AG (by grind [D4,DM,DW,E3,E4])),E⟩
theorem De (a:List Int) (b:List Int) (h1:RepS w F a1 n1 c1 a) (h2:RepS w F a2 n2 c2 b)  : Calls Tryz.prog 117 [.slice a1 n1 c1,.slice a2 n2 c2].toArray w (BB fun rv w'=>rv=.bool ((a==b))∧Ext w w'):=by
 refine goT func117 ?_
 obtain ⟨rfl,av,h1⟩:=h1.tp
 obtain ⟨rfl,aw,h2⟩:=h2.tp
 refine .s<|.g<|.r 1<|.d<|.s<|.s<|.g<|.r 4<|.ne (a.length:Int) (b.length:Int) (fun ag=>.d<|.ct<|.s<|.g<|.r 1<|.d<|.rt func117 results117 (.bool false) ⟨(AG (by grind [Ab])),(Chg.refl _ _)⟩) fun ag=>.d<|.cf<|.sk<|.s<|.s<|.g<|.r 3<|.d<|.b 0<|T.loop (X:=Nat) 0 (fun k=>[(0,.slice a1 a.length c1),(1,.slice a2 b.length c2),(12,vI (a.length:Int)),(13,vI (k:Int))]) (fun k ab=>Chg (ins []) w ab∧(k≤a.length)∧(a.drop k=b.drop k↔a=b)) (fun k=>a.length - k) AA ⟨AA,AA,AA,AA,trivial⟩ ⟨Chg.refl _ _,AD,AD⟩ ?_
 rintro k aB ab ⟨C,ax,ay⟩ J
 have ac:Mv [] [] w ab:=Mv.inl C all_nil all_nil
 replace ⟨h1,h2⟩:=(sp ac C).g2 h1 h2
 have E:Chg nil w ab:=Chg.Cr (Chg.refl nil w) C all_nil
 refine .s<|.g<|.bp ((k:Int)< (a.length:Int)) (fun ah=>?_) (fun ah=>.d<|.s<|.cf<|.x 0 rfl<|.s<|.g<|.r 1<|.d<|.rt func117 results117 (.bool true) ⟨(AG (by grind [Ab])),E⟩)
 refine .d<|.s<|.ct<|.sk<|.s<|.b 1<|.s<|.g<|.r 2<|.d<|.s<|.gd nil 8 fun aC ae=>?_
 replace ⟨h1,h2,E,C⟩:=(se [] ae).g4 h1 h2 E C
 refine .r [0,1] ?_
 have ai:k< a.length:=AB
 refine .ix 2 k 1 h1 ai ?_
 obtain ⟨aj,W⟩:∃ y,a[k]? = some y:=⟨_,AU AB⟩
 have az:=Ai W
 obtain ⟨_,rfl,ak⟩:=h1.elem k aj W
 refine .lh 3 0 ak id<|.r [4,5] ?_
 have al:k< b.length:=AB
 refine .ix 6 k 1 h2 al ?_
 obtain ⟨am,aa⟩:∃ y,b[k]? = some y:=⟨_,AU AB⟩
 have aA:=Ai aa
 obtain ⟨_,rfl,ao⟩:=h2.elem k am aa
 refine .lh 7 0 ao id<|.d fun aD af=>?_
 replace ⟨E,C⟩:=(se [] af).g2 E C
 exact .ne aj am (fun aq=>.d<|.ct<|.s<|.g<|.r 1<|.d<|.rt func117 results117 (.bool false) ⟨(AG (by grind [Ab])),E⟩) fun aq=>.d<|.cf<|.sk<|.ib 1<|.g<|.it ((k:Int)+1)<|.r 1<|.d<|J (k+1) _ _ ⟨AA,AA,AA,AA,trivial⟩ ⟨C,AB,(by grind)⟩ AB
theorem Er (a:List Int) (b:List Int) (h1:RepS w F a1 n1 c1 a) (h2:RepS w F a2 n2 c2 b)  : Calls Tryz.prog 25 [.slice a1 n1 c1,.slice a2 n2 c2].toArray w (BB fun rv w'=>rv=.bool ((a==b))∧Ext w w'):=by
 refine goT func25 ?_
 obtain ⟨rfl,av,h1⟩:=h1.tp
 obtain ⟨rfl,aw,h2⟩:=h2.tp
 refine .s<|.g<|.r 1<|.d<|.s<|.s<|.g<|.r 4<|.ne (a.length:Int) (b.length:Int) (fun ag=>.d<|.ct<|.s<|.g<|.r 1<|.d<|.rt func25 results25 (.bool false) ⟨(AG (by grind [Ab])),(Chg.refl _ _)⟩) fun ag=>.d<|.cf<|.sk<|.s<|.s<|.g<|.r 1<|.d<|.b 0<|T.loop (X:=Nat) 0 (fun i=>[(0,.slice a1 a.length c1),(1,.slice a2 b.length c2),(5,vI (i:Int))]) (fun i ab=>Chg (ins []) w ab∧(i≤a.length)∧(a.drop i=b.drop i↔a=b)) (fun i=>a.length - i) AA ⟨AA,AA,AA,trivial⟩ ⟨Chg.refl _ _,AD,AD⟩ ?_
 rintro i aB ab ⟨C,ax,ay⟩ J
 have ac:Mv [] [] w ab:=Mv.inl C all_nil all_nil
 replace ⟨h1,h2⟩:=(sp ac C).g2 h1 h2
 have E:Chg nil w ab:=Chg.Cr (Chg.refl nil w) C all_nil
 refine .s<|.s<|.g<|.r 3<|.bp ((i:Int)< (a.length:Int)) (fun ah=>?_) (fun ah=>.d<|.cf<|.x 0 rfl<|.s<|.g<|.r 1<|.d<|.rt func25 results25 (.bool true) ⟨(AG (by grind [Ab])),E⟩)
 refine .d<|.ct<|.sk<|.s<|.b 1<|.s<|.gd nil 8 fun aC ae=>?_
 replace ⟨h1,h2,E,C⟩:=(se [] ae).g4 h1 h2 E C
 refine .r [0,1] ?_
 have ai:i< a.length:=AB
 refine .ix 2 i 1 h1 ai ?_
 obtain ⟨aj,W⟩:∃ y,a[i]? = some y:=⟨_,AU AB⟩
 have az:=Ai W
 obtain ⟨_,rfl,ak⟩:=h1.elem i aj W
 refine .lh 3 0 ak id<|.r [4,5] ?_
 have al:i< b.length:=AB
 refine .ix 6 i 1 h2 al ?_
 obtain ⟨am,aa⟩:∃ y,b[i]? = some y:=⟨_,AU AB⟩
 have aA:=Ai aa
 obtain ⟨_,rfl,ao⟩:=h2.elem i am aa
 refine .lh 7 0 ao id<|.d fun aD af=>?_
 replace ⟨E,C⟩:=(se [] af).g2 E C
 exact .ne aj am (fun aq=>.d<|.ct<|.s<|.g<|.r 1<|.d<|.rt func25 results25 (.bool false) ⟨(AG (by grind [Ab])),E⟩) fun aq=>.d<|.cf<|.sk<|.ib 1<|.g<|.r 1<|.it ((i:Int)+1)<|.r 1<|.d<|J (i+1) _ _ ⟨AA,AA,AA,trivial⟩ ⟨C,AB,(by grind)⟩ AB
theorem Cc (a:List Tag) (b:List Tag) (h1:RepS w F a1 n1 c1 a) (h2:RepS w F a2 n2 c2 b)  : Calls Tryz.prog 77 [.slice a1 n1 c1,.slice a2 n2 c2].toArray w (BB fun rv w'=>rv=.bool ((a==b))∧Ext w w'):=by
 refine goT func77 ?_
 obtain ⟨rfl,au,h1⟩:=h1.tp
 obtain ⟨rfl,av,h2⟩:=h2.tp
 refine .s<|.g<|.r 1<|.d<|.s<|.s<|.g<|.r 4<|.ne (a.length:Int) (b.length:Int) (fun ai=>.d<|.ct<|.s<|.g<|.r 1<|.d<|.rt func77 results77 (.bool false) ⟨(AG (by grind [Ab])),(Chg.refl _ _)⟩) fun ai=>.d<|.cf<|.sk<|.s<|.s<|.g<|.r 3<|.d<|.b 0<|T.loop (X:=Nat) 0 (fun k=>[(0,.slice a1 a.length c1),(1,.slice a2 b.length c2),(12,vI (a.length:Int)),(13,vI (k:Int))]) (fun k ab=>Chg (ins []) w ab∧(k≤a.length)∧(a.drop k=b.drop k↔a=b)) (fun k=>a.length - k) AA ⟨AA,AA,AA,AA,trivial⟩ ⟨Chg.refl _ _,AD,AD⟩ ?_
 rintro k aB ab ⟨C,aw,ax⟩ J
 have ac:Mv [] [] w ab:=Mv.inl C all_nil all_nil
 replace ⟨h1,h2⟩:=(sp ac C).g2 h1 h2
 have E:Chg nil w ab:=Chg.Cr (Chg.refl nil w) C all_nil
 refine .s<|.g<|.bp ((k:Int)< (a.length:Int)) (fun aj=>?_) (fun aj=>.d<|.s<|.cf<|.x 0 rfl<|.s<|.g<|.r 1<|.d<|.rt func77 results77 (.bool true) ⟨(AG (by grind [Ab])),E⟩)
 refine .d<|.s<|.ct<|.sk<|.s<|.b 1<|.s<|.g<|.r 2<|.d<|.s<|.gd nil 8 fun aC ae=>?_
 replace ⟨h1,h2,E,C⟩:=(se [] ae).g4 h1 h2 E C
 refine .r [0,1] ?_
 have ak:k< a.length:=AB
 refine .ix 2 k 2 h1 ak ?_
 obtain ⟨ag,W⟩:∃ y,a[k]? = some y:=⟨_,AU AB⟩
 have ay:=Ai W
 obtain ⟨_,rfl,al⟩:=h1.elem k ag W
 refine .lg 3 0 al id<|.r [4,5] ?_
 have am:k< b.length:=AB
 refine .ix 6 k 2 h2 am ?_
 obtain ⟨ah,aa⟩:∃ y,b[k]? = some y:=⟨_,AU AB⟩
 have az:=Ai aa
 obtain ⟨_,rfl,ao⟩:=h2.elem k ah aa
 refine .lg 7 0 ao id<|.d fun aD af=>?_
 replace ⟨E,C⟩:=(se [] af).g2 E C
 refine RG.NV (t:=67) (x:=ag) (y:=ah) AA AA ?_
 cases aA:(ag==ah)
 ·exact .d<|.ct<|.s<|.g<|.r 1<|.d<|.rt func77 results77 (.bool false) ⟨(AG (by grind [Ab])),E⟩
 exact .d<|.cf<|.sk<|.ib 1<|.g<|.it ((k:Int)+1)<|.r 1<|.d<|J (k+1) _ _ ⟨AA,AA,AA,AA,trivial⟩ ⟨C,AB,(by grind)⟩ AB
theorem D5 (a:List Tag) (b:List Tag) (h1:RepS w F a1 n1 c1 a) (h2:RepS w F a2 n2 c2 b)  : Calls Tryz.prog 19 [.slice a1 n1 c1,.slice a2 n2 c2].toArray w (BB fun rv w'=>rv=.bool ((a==b))∧Ext w w'):=by
 refine goT func19 ?_
 obtain ⟨rfl,au,h1⟩:=h1.tp
 obtain ⟨rfl,av,h2⟩:=h2.tp
 refine .s<|.g<|.r 1<|.d<|.s<|.s<|.g<|.r 4<|.ne (a.length:Int) (b.length:Int) (fun ai=>.d<|.ct<|.s<|.g<|.r 1<|.d<|.rt func19 results19 (.bool false) ⟨(AG (by grind [Ab])),(Chg.refl _ _)⟩) fun ai=>.d<|.cf<|.sk<|.s<|.s<|.g<|.r 1<|.d<|.b 0<|T.loop (X:=Nat) 0 (fun i=>[(0,.slice a1 a.length c1),(1,.slice a2 b.length c2),(5,vI (i:Int))]) (fun i ab=>Chg (ins []) w ab∧(i≤a.length)∧(a.drop i=b.drop i↔a=b)) (fun i=>a.length - i) AA ⟨AA,AA,AA,trivial⟩ ⟨Chg.refl _ _,AD,AD⟩ ?_
 rintro i aB ab ⟨C,aw,ax⟩ J
 have ac:Mv [] [] w ab:=Mv.inl C all_nil all_nil
 replace ⟨h1,h2⟩:=(sp ac C).g2 h1 h2
 have E:Chg nil w ab:=Chg.Cr (Chg.refl nil w) C all_nil
 refine .s<|.s<|.g<|.r 3<|.bp ((i:Int)< (a.length:Int)) (fun aj=>?_) (fun aj=>.d<|.cf<|.x 0 rfl<|.s<|.g<|.r 1<|.d<|.rt func19 results19 (.bool true) ⟨(AG (by grind [Ab])),E⟩)
 refine .d<|.ct<|.sk<|.s<|.b 1<|.s<|.gd nil 8 fun aC ae=>?_
 replace ⟨h1,h2,E,C⟩:=(se [] ae).g4 h1 h2 E C
 refine .r [0,1] ?_
 have ak:i< a.length:=AB
 refine .ix 2 i 2 h1 ak ?_
 obtain ⟨ag,W⟩:∃ y,a[i]? = some y:=⟨_,AU AB⟩
 have ay:=Ai W
 obtain ⟨_,rfl,al⟩:=h1.elem i ag W
 refine .lg 3 0 al id<|.r [4,5] ?_
 have am:i< b.length:=AB
 refine .ix 6 i 2 h2 am ?_
 obtain ⟨ah,aa⟩:∃ y,b[i]? = some y:=⟨_,AU AB⟩
 have az:=Ai aa
 obtain ⟨_,rfl,ao⟩:=h2.elem i ah aa
 refine .lg 7 0 ao id<|.d fun aD af=>?_
 replace ⟨E,C⟩:=(se [] af).g2 E C
 refine RG.NV (t:=67) (x:=ag) (y:=ah) AA AA ?_
 cases aA:(ag==ah)
 ·exact .d<|.ct<|.s<|.g<|.r 1<|.d<|.rt func19 results19 (.bool false) ⟨(AG (by grind [Ab])),E⟩
 exact .d<|.cf<|.sk<|.ib 1<|.g<|.r 1<|.it ((i:Int)+1)<|.r 1<|.d<|J (i+1) _ _ ⟨AA,AA,AA,trivial⟩ ⟨C,AB,(by grind)⟩ AB
theorem Jt (a:List Row) (b:List Row) (h1:RepS w F a1 n1 c1 a) (h2:RepS w F a2 n2 c2 b)  : Calls Tryz.prog 82 [.slice a1 n1 c1,.slice a2 n2 c2].toArray w (BB fun rv w'=>rv=.bool ((a==b))∧Ext w w'):=by
 refine goT func82 ?_
 obtain ⟨rfl,au,h1⟩:=h1.tp
 obtain ⟨rfl,av,h2⟩:=h2.tp
 refine .s<|.g<|.r 1<|.d<|.s<|.s<|.g<|.r 4<|.ne (a.length:Int) (b.length:Int) (fun ai=>.d<|.ct<|.s<|.g<|.r 1<|.d<|.rt func82 results82 (.bool false) ⟨(AG (by grind [Ab])),(Chg.refl _ _)⟩) fun ai=>.d<|.cf<|.sk<|.s<|.s<|.g<|.r 1<|.d<|.b 0<|T.loop (X:=Nat) 0 (fun i=>[(0,.slice a1 a.length c1),(1,.slice a2 b.length c2),(5,vI (i:Int))]) (fun i ab=>Chg (ins []) w ab∧(i≤a.length)∧(a.drop i=b.drop i↔a=b)) (fun i=>a.length - i) AA ⟨AA,AA,AA,trivial⟩ ⟨Chg.refl _ _,AD,AD⟩ ?_
 rintro i aB ab ⟨C,aw,ax⟩ J
 have ac:Mv [] [] w ab:=Mv.inl C all_nil all_nil
 replace ⟨h1,h2⟩:=(sp ac C).g2 h1 h2
 have E:Chg nil w ab:=Chg.Cr (Chg.refl nil w) C all_nil
 refine .s<|.s<|.g<|.r 3<|.bp ((i:Int)< (a.length:Int)) (fun aj=>?_) (fun aj=>.d<|.cf<|.x 0 rfl<|.s<|.g<|.r 1<|.d<|.rt func82 results82 (.bool true) ⟨(AG (by grind [Ab])),E⟩)
 refine .d<|.ct<|.sk<|.s<|.b 1<|.s<|.gd nil 8 fun aC ae=>?_
 replace ⟨h1,h2,E,C⟩:=(se [] ae).g4 h1 h2 E C
 refine .r [0,1] ?_
 have ak:i< a.length:=AB
 refine .ix 2 i 2 h1 ak ?_
 obtain ⟨ag,W⟩:∃ y,a[i]? = some y:=⟨_,AU AB⟩
 have ay:=Ai W
 obtain ⟨_,rfl,al⟩:=h1.elem i ag W
 refine .lg 3 0 al id<|.r [4,5] ?_
 have am:i< b.length:=AB
 refine .ix 6 i 2 h2 am ?_
 obtain ⟨ah,aa⟩:∃ y,b[i]? = some y:=⟨_,AU AB⟩
 have az:=Ai aa
 obtain ⟨_,rfl,ao⟩:=h2.elem i ah aa
 refine .lg 7 0 ao id<|.d fun aD af=>?_
 replace ⟨E,C⟩:=(se [] af).g2 E C
 refine RG.O3 (t:=56) (x:=ag) (y:=ah) AA AA ?_
 cases aA:(ag==ah)
 ·exact .d<|.ct<|.s<|.g<|.r 1<|.d<|.rt func82 results82 (.bool false) ⟨(AG (by grind [Ab])),E⟩
 exact .d<|.cf<|.sk<|.ib 1<|.g<|.r 1<|.it ((i:Int)+1)<|.r 1<|.d<|J (i+1) _ _ ⟨AA,AA,AA,trivial⟩ ⟨C,AB,(by grind)⟩ AB
theorem K0 (n:List Tag) (t:Tag) (h1:RepS w F a1 n1 c1 n)  : Calls Tryz.prog 167 [.slice a1 n1 c1,.agg #[.string (bs t.key),.string (bs t.val)]].toArray w (BB fun rv w'=>rv=.bool (has n t)∧Ext w w'):=by
 refine goT func167 ?_
 obtain ⟨rfl,au,h1⟩:=h1.tp
 refine .s<|.g<|.np 67 [vT t.key,vT t.val] fun ac ak ae W J al=>?_
 replace h1:=(sn [] W ae).g1 h1
 have C:=W
 refine .r 1<|.d<|.s<|.s<|.g<|.r 1<|.d<|.b 0<|T.loop (X:=Nat) 0 (fun i=>[(0,.slice a1 n.length c1),(3,.pointer (some ⟨ac,0,none⟩)),(5,vI (i:Int))]) (fun i ai=>Chg (ins []) ak ai∧(i≤n.length)∧(has (n.drop i) t=has n t)) (fun i=>n.length - i) AA ⟨AA,AA,AA,trivial⟩ ⟨Chg.refl _ _,AD,AD⟩ ?_
 rintro i az ai ⟨E,av,aw⟩ aa
 have af:Mv [ac] [ac] ak ai:=Mv.inl E all_nil (all_cons (.inl AI) all_nil)
 replace ⟨h1,J,C⟩:=(sp af E).g3 h1 J C
 refine .s<|.s<|.g<|.r 3<|.bp ((i:Int)< (n.length:Int)) (fun am=>?_) (fun am=>.d<|.cf<|.x 0 rfl<|.s<|.g<|.r 1<|.d<|.rt func167 results167 (.bool false) ⟨(AG (by grind [has])),C⟩)
 refine .d<|.ct<|.sk<|.s<|.b 1<|.s<|.gd nil 5 fun aA ag=>?_
 replace ⟨h1,J,C,E⟩:=(se [ac] ag).g4 h1 J C E
 refine .r [0,1] ?_
 have ao:i< n.length:=AB
 refine .ix 2 i 2 h1 ao ?_
 obtain ⟨aj,ab⟩:∃ y,n[i]? = some y:=⟨_,AU AB⟩
 have ax:=Ai ab
 obtain ⟨_,rfl,aq⟩:=h1.elem i aj ab
 refine .lg 3 0 aq id<|.ln 4 J id<|.d fun aB ah=>?_
 replace ⟨C,E⟩:=(se [] ah).g2 C E
 refine RG.NU (t:=67) (x:=aj) (y:=t) AA AA ?_
 cases ay:(aj==t)
 ·exact .d<|.cf<|.sk<|.ib 1<|.g<|.r 1<|.it ((i:Int)+1)<|.r 1<|.d<|aa (i+1) _ _ ⟨AA,AA,AA,trivial⟩ ⟨E,AB,(by grind [has])⟩ AB
 exact .d<|.ct<|.s<|.g<|.r 1<|.d<|.rt func167 results167 (.bool true) ⟨(AG (by grind [has])),C⟩
theorem Ju (names:List (List Tag)) (t:Tag) (h1:RepS w F a1 n1 c1 names) (p0:names.length≤1000000):Calls Tryz.prog 151 [.slice a1 n1 c1,.agg #[.string (bs t.key),.string (bs t.val)]].toArray w (BB fun rv w'=>VL (ge w.heap.size) w' (ids names t:List Int) rv∧Ext w w'):=by
 refine goT func151 ?_
 obtain ⟨rfl,bg,h1⟩:=h1.tp
 refine .s<|.g<|.np 67 [vT t.key,vT t.val] fun aa bv ar ai J aD=>?_
 replace h1:=(sn [] ai ar).g1 h1
 have C:=ai
 refine .r 1<|.d<|.s<|.g<|.ns 0 3 [] fun ac aj ae au aE aF=>?_
 have aG:=AX ae J.lt
 have aH:=Ae ae C.size
 have aI:=C.cn ae
 replace ⟨h1,J,C⟩:=(sn [aa] au ae).g3 h1 J C
 have aJ:Own (α:=Int) aj ac 3 (nin (ge w.heap.size) [ac,aa]) 0 0 []:=Own.Aj aE
 refine .r 1<|.d<|.s<|.s<|.g<|.r 1<|.d<|.b 0<|T.loop (X:=(List Int) × Nat × Nat × Nat × Nat) (([]:List Int),ac,0,0,0) (fun (out,r_out,n_out,c_out,i)=>[(0,.slice a1 names.length c1),(3,.pointer (some ⟨aa,0,none⟩)),(5,vS r_out n_out c_out),(6,vI (i:Int))]) (fun (out,r_out,n_out,c_out,i) aq=>Chg (ins [ac]) aj aq∧Own aq r_out 3 (nin (ge w.heap.size) [r_out,aa]) n_out c_out out∧OrB r_out ac aj.heap.size∧(i≤names.length)∧(out.length≤i)∧(out++GP t i (names.drop i)=ids names t)) (fun (out,r_out,n_out,c_out,i)=>names.length - i) AA ⟨AA,AA,AA,AA,trivial⟩ ⟨Chg.refl _ _,aJ,BU,(by simp [ids]),(by simp [ids]),(by simp [ids])⟩ ?_
 rintro ⟨out,r_out,n_out,c_out,i⟩ bw aq ⟨E,W,ab,bh,bi,bj⟩ af
 have bk:=Ay ab aG J.lt
 have aK:=Bz ab aH C.size
 have bm:=BA ab aI C.size
 have aL:Cov (ins [ac]) aj ac:=⟨.inl AI⟩
 have bn:=BA ab aL (Nat.le_refl _)
 have av:Mv [ac,aa] [r_out,aa] aj aq:=Mv.inl E (all_cons AI all_nil) (all_cons (Bb ab AI) (all_cons (.inl AJ) all_nil))
 replace ⟨h1,J,C⟩:=(sp av E).g3 h1 J C
 have bo:=W.len; have bq:=W.max
 refine .s<|.s<|.g<|.r 3<|.bp ((i:Int)< (names.length:Int)) (fun aM=>?_) (fun aM=>?_)
 ·refine .d<|.ct<|.sk<|.s<|.b 1<|.s<|.gd nil 5 fun bz aw=>?_
  replace ⟨h1,J,W,C,E⟩:=(se [r_out,aa] aw).g5 h1 J W C E
  refine .r [0,1] ?_
  have aN:i< names.length:=AB
  refine .ix 2 i 1 h1 aN ?_
  obtain ⟨aC,ak⟩:∃ y,names[i]? = some y:=⟨_,AU AB⟩
  have br:=Ai ak
  obtain ⟨_,⟨bA,bB,bC,rfl,al⟩,aO⟩:=h1.elem i aC ak
  have aP:=al.len
  subst aP
  refine .lh 3 0 aO id<|.ln 4 J id<|.d fun aY ax=>?_
  replace ⟨J,W,al,C,E⟩:=(se [r_out,aa] ax).g5 J W al C E
  refine .cl (K0 aC t al.ta (w:=aY) (F:=all)) ?_
  rintro bD bE ⟨rfl,ay⟩
  replace ⟨J,W,C,E⟩:=(se [r_out,aa] ay).g4 J W C E
  cases bu:(has aC t)
  ·exact .d<|.cf<|.sk<|.ib 1<|.g<|.r 1<|.it ((i:Int)+1)<|.r 1<|.d<|af (out,r_out,n_out,c_out,i+1) _ _ ⟨AA,AA,AA,AA,trivial⟩ ⟨E,W,ab,(by grind [GP]),(by grind [GP]),(by grind [GP])⟩ (by (simp only []; omega))
  refine .d<|.ct<|.g<|.r 2<|.it ((i:Int)+1)<|.ns 1 3 [vI ((i:Int)+1)] fun aQ bF ah az aR aS=>?_
  have aT:=AX ah J.lt
  have aA:=AX ah W.lt
  have aU:=Ae ah C.size
  replace ⟨W,C,E⟩:=(se [r_out,aa] az).g3 W C E
  have am:nin (ge w.heap.size) [r_out,aa] aQ∧aQ≠r_out:=BR aU (all_cons aA (all_cons aT all_nil)) aA
  refine RG.Ax (T:=34) (ty:=34) (y:=(i:Int)+1) W aR AA AA rfl am AB fun aZ ba bG ag ao aB=>?_
  have aV:=CB ao ab E.size
  replace ⟨C,E⟩:=(s1 aB).g2 C E
  replace ag:=ag.rn r_out
  have bc:=ag.len
  exact .r 1<|.d<|.ib 1<|.g<|.r 1<|.it ((i:Int)+1)<|.r 1<|.d<|af ((out++[(i:Int)+1]),aZ,n_out+1,ba,i+1) _ _ ⟨AA,AA,AA,AA,trivial⟩ ⟨E,ag,aV,(by grind [GP]),(by grind [GP]),(by grind [GP])⟩ (by (simp only []; omega))
 refine .d<|.cf<|.x 0 rfl<|.s<|.g<|.r 2<|.d ?_
 have aW:=W.sl aK
 exact .rt func151 results151 (vS r_out n_out c_out) ⟨(aW.vl (by grind [GP]) (fun _ _ h=>h.1)),C⟩
theorem Fk (a:List Row) (b:List Row) (h1:RepS w F a1 n1 c1 a) (h2:RepS w F a2 n2 c2 b) (p0:a.length+b.length≤1000000):Calls Tryz.prog 145 [.slice a1 n1 c1,.slice a2 n2 c2].toArray w (BB fun rv w'=>VL (ge w.heap.size) w' (Bg a b:List Row) rv∧Ext w w'):=by
 refine goT func145 ?_
 obtain ⟨rfl,aJ,h1⟩:=h1.tp
 obtain ⟨rfl,aK,h2⟩:=h2.tp
 refine .s<|.g<|.r 1<|.d<|.s<|.g<|.ns 0 56 [] fun ae aE ac af au av=>?_
 have aw:=Ae ac (Nat.le_refl _)
 have aL:Cov nil w ae:=Bf ac (Nat.le_refl _)
 replace ⟨h1,h2⟩:=(sn [] af ac).g2 h1 h2
 have C:=af
 have ax:Own (α:=Row) aE ae 56 (nin (ge w.heap.size) [ae]) 0 0 []:=Own.Aj au
 refine .r 1<|RG.BG (T:=62) (ty:=62) Bx ax h1 AA AA (fun b h e=>h.2 (e▸AI)) AB fun aq aF ar J aa ak=>?_
 have ay:=Bt aa aw C.size
 replace ⟨h2,C⟩:=(sa [ae] ak aa).g2 h2 C
 replace J:=J.rn ae
 have aM:=J.len
 refine .r 1<|.d<|.s<|.s<|.g<|.r 1<|.d<|.b 0 ?_
 have aG:=J.sl ay
 replace h2:=(sd ar [aq] aq).g1 h2
 refine T.loop (X:=(List Row) × (Option Addr) × Nat × Nat × Nat) ((([]++a):List Row),some ⟨aq,0,none⟩,0+a.length,aF,0) (fun (out,a_out,n_out,c_out,i)=>[(1,.slice a2 b.length c2),(5,.slice a_out n_out c_out),(6,vI (i:Int))]) (fun (out,a_out,n_out,c_out,i) ab=>Chg (ins []) ar ab∧RepS ab (nin (ge w.heap.size) []) a_out n_out c_out out∧(i≤b.length)∧(out.length≤a.length+i)∧((b.drop i).foldl DR out=Bg a b)) (fun (out,a_out,n_out,c_out,i)=>b.length - i) AA ⟨AA,AA,AA,trivial⟩ ⟨Chg.refl _ _,aG,(by simp [Bg]),(by simp [Bg]),(by simp [Bg])⟩ ?_
 rintro ⟨out,a_out,n_out,c_out,i⟩ aV ab ⟨W,E,aO,aP,aQ⟩ ag
 have al:Mv [] [] ar ab:=Mv.inl W all_nil all_nil
 replace ⟨h2,C⟩:=(sp al W).g2 h2 C
 have aR:=E.len; have aS:=E.max
 refine .s<|.s<|.g<|.r 3<|.bp ((i:Int)< (b.length:Int)) (fun az=>?_) (fun az=>.d<|.cf<|.x 0 rfl<|.s<|.g<|.r 2<|.d<|.rt func145 results145 (.slice a_out n_out c_out) ⟨(E.vl (by grind [Ab]) (fun _ _ h=>h.1)),C⟩)
 refine .d<|.ct<|.sk<|.s<|.b 1<|.g<|.r 3 ?_
 have aA:i< b.length:=AB
 refine .ix i 2 h2 aA ?_
 obtain ⟨ai,ah⟩:∃ y,b[i]? = some y:=⟨_,AU AB⟩
 have aT:=Ai ah
 obtain ⟨_,rfl,aB⟩:=h2.elem i ai ah
 refine .lg 0 aB<|.cl (FI out ai E.ta AB (w:=ab) (F:=all)) ?_
 rintro aW aX ⟨⟨aH,aI,rfl,aj⟩,am⟩
 have ao:∀ q_∈([]:List Nat),q_< ab.heap.size:=all_nil
 have aC:Gb w.heap.size ab.heap.size:=C.size
 replace ⟨E,C,W⟩:=(se [] am).g3 E C W
 have aj:=aj.fr ao aC
 exact .r 1<|.d<|.ib 1<|.g<|.r 1<|.it ((i:Int)+1)<|.r 1<|.d<|ag (DR out ai,aH,(DR out ai).length,aI,i+1) _ _ ⟨AA,AA,AA,trivial⟩ ⟨W,aj,(by grind [C3]),(by grind [C3]),(by grind [C3])⟩ (by (simp only []; omega))
theorem FJ (p:Prt) (id:Int) (h1:RepS w F a1 n1 c1 p.ids) (h2:RepS w F a2 n2 c2 p.blocks) (p0:p.ids.length≤p.blocks.length):Calls Tryz.prog 146 [.agg #[.slice a1 n1 c1,.slice a2 n2 c2],.int .i64 id].toArray w (BB fun rv w'=>VL (fo F w.heap.size) w' (partOf p id:List Row) rv∧Ext w w'):=by
 refine goT func146 ?_
 obtain ⟨rfl,aL,h1⟩:=h1.tp
 obtain ⟨rfl,aM,h2⟩:=h2.tp
 refine .s<|.g<|.np 48 [.slice a1 p.ids.length c1,.slice a2 p.blocks.length c2] fun af am ag J E ao=>?_
 replace ⟨h1,h2⟩:=(sn [] J ag).g2 h1 h2
 have C:=J
 refine .r 1<|.d<|.s<|.s<|.g<|.r 1<|.d<|.b 0<|T.loop (X:=Nat) 0 (fun i=>[(1,vI id),(2,.pointer (some ⟨af,0,none⟩)),(5,vI (i:Int))]) (fun i aj=>Chg (ins []) am aj∧(i≤p.ids.length)∧(Bm id (p.ids.drop i) (p.blocks.drop i)=partOf p id)) (fun i=>p.ids.length - i) AA ⟨AA,AA,AA,trivial⟩ ⟨Chg.refl _ _,(by simp [partOf]),(by simp [partOf])⟩ ?_
 rintro i aT aj ⟨W,aN,aO⟩ aa
 have ah:Mv [af] [af] am aj:=Mv.inl W all_nil (all_cons (.inl AI) all_nil)
 replace ⟨h1,h2,E,C⟩:=(sp ah W).g4 h1 h2 E C
 refine .s<|.s<|.g<|.r 2<|.lb E<|.r 1<|.bp ((i:Int)< (p.ids.length:Int)) (fun aq=>?_) (fun aq=>?_)
 ·refine .d<|.ct<|.sk<|.s<|.b 1<|.s<|.g<|.r 1<|.lb E<|.r 1 ?_
  have ar:i< p.ids.length:=AB
  refine .ix i 1 h1 ar ?_
  obtain ⟨au,ab⟩:∃ y,p.ids[i]? = some y:=⟨_,AU AB⟩
  have aP:=Ai ab
  obtain ⟨_,rfl,av⟩:=h1.elem i au ab
  refine .lh 0 av<|.r 1<|.eq au id (fun aw=>?_) (fun aw=>.d<|.cf<|.sk<|.ib 1<|.g<|.r 1<|.it ((i:Int)+1)<|.r 1<|.d<|aa (i+1) _ _ ⟨AA,AA,AA,trivial⟩ ⟨W,(by have:=List.drop_eq_getElem_cons (l:=p.blocks) (i:=i) AB; grind [Bm]),(by have:=List.drop_eq_getElem_cons (l:=p.blocks) (i:=i) AB; grind [Bm])⟩ AB)
  refine .d<|.ct<|.s<|.g<|.r 1<|.lb E<|.r 1 ?_
  have ax:i< p.blocks.length:=AB
  refine .ix i 1 h2 ax ?_
  obtain ⟨ay,ac⟩:∃ y,p.blocks[i]? = some y:=⟨_,AU AB⟩
  have aQ:=Ai ac
  obtain ⟨_,⟨aH,aU,aI,rfl,ak⟩,az⟩:=h2.elem i ay ac
  have aA:=ak.len
  subst aA
  exact .lh 0 az<|.r 1<|.d<|.rt func146 results146 (.slice aH ay.length aI) ⟨(ak.vl (by grind [Bm,Ab]) (fun _ _ h=>h.1)),C⟩
 refine .d<|.cf<|.x 0 rfl<|.s<|.g<|.ns 0 56 [] fun al aJ ae ai aB aC=>?_
 have aS:=AX ae E.lt
 have aD:=Ae ae C.size
 replace C:=(se [] ai).g1 C
 have aE:Own (α:=Row) aJ al 56 (nin (fo F w.heap.size) [al,af]) 0 0 []:=Own.Aj aB
 refine .r 1<|.d ?_
 have aK:=aE.sl (.inr aD)
 exact .rt func146 results146 (vS al 0 0) ⟨(aK.vl (by grind [Bm,Ab]) (fun _ _ h=>h.1)),C⟩
theorem Fl (blocks:List (List Row)) (h1:RepS w F a1 n1 c1 blocks) (p0:blocks.length≤1000000) (p1:∀ b∈blocks,b.length≤1000000):Calls Tryz.prog 148 [.slice a1 n1 c1].toArray w (BB fun rv w'=>VS (ge w.heap.size) w' (C2 blocks:Prt) rv∧Ext w w'):=by
 refine goT func148 ?_
 obtain ⟨rfl,dE,h1⟩:=h1.tp
 refine .s<|.g<|.np 48 [AH,AH] fun ae ef aV aW E cB=>?_
 have dF:Cov nil w ae:=Bf aV (Nat.le_refl _)
 replace h1:=(sn [] aW aV).g1 h1
 have C:=aW
 refine .d<|.s<|.g<|.ns 0 3 [] fun al dh aI bv cC cD=>?_
 have cE:=AX aI E.lt
 have cF:=Ae aI C.size
 have cG:=C.cn aI
 replace ⟨h1,E,C⟩:=(sn [ae] bv aI).g3 h1 E C
 have ao:Own (α:=Int) dh al 3 (nin (ge w.heap.size) [al,ae]) 0 0 []:=Own.Aj cC
 refine .ns 0 62 [] fun au dj aA bw cH cI=>?_
 have cJ:=AX aA E.lt
 have cK:=AX aA ao.lt
 have cL:=Ae aA C.size
 have cM:=C.cn aA
 replace ⟨h1,E,ao,C⟩:=(sn [al,ae] bw aA).g4 h1 E ao C
 have aB:Own (α:=List Row) dj au 62 (nin (ge w.heap.size) [au,al,ae]) 0 0 []:=Own.Aj cH
 refine .r 1<|.np 48 [AH,AH] fun ac eg aC bz cN cO=>?_
 have dG:=AX aC E.lt
 have cP:=AX aC ao.lt
 have cQ:=AX aC aB.lt
 have dH:=C.cn aC
 replace ⟨h1,E,ao,aB,C⟩:=(sn [au,al,ae] bz aC).g5 h1 E ao aB C
 refine .sc [vS al 0 0,vS au 0 0] cN fun aL bA aX cR=>?_
 replace ⟨h1,E,ao,aB,C⟩:=(so [ac,au,al,ae] bA).g5 h1 E ao aB C
 refine .d<|.s<|.s<|.g<|.r 1<|.d<|.b 0<|T.loop (X:=Nat × (List Int) × Nat × Nat × Nat × (List (List Row)) × Nat × Nat × Nat) (0,([]:List Int),al,0,0,([]:List (List Row)),au,0,0) (fun (i,aG,r_p_0,n_p_0,c_p_0,aH,r_p_1,n_p_1,c_p_1)=>[(0,.slice a1 blocks.length c1),(2,.pointer (some ⟨ae,0,none⟩)),(3,.pointer (some ⟨ac,0,none⟩)),(4,vI (i:Int))]) (fun (i,aG,r_p_0,n_p_0,c_p_0,aH,r_p_1,n_p_1,c_p_1) aS=>Chg (ins [al,au,ac]) aL aS∧Own aS r_p_0 3 (nin (ge w.heap.size) [ac,r_p_1,r_p_0,ae]) n_p_0 c_p_0 aG∧OrB r_p_0 al aL.heap.size∧Own aS r_p_1 62 (nin (ge w.heap.size) [ac,r_p_1,r_p_0,ae]) n_p_1 c_p_1 aH∧OrB r_p_1 au aL.heap.size∧Nb r_p_1 r_p_0∧Box aS ac 48 [vS r_p_0 n_p_0 c_p_0,vS r_p_1 n_p_1 c_p_1]∧(i≤blocks.length)∧(aG.length≤i)∧(aH.length≤i)∧(aG++(BY i (blocks.drop i)).1=(BY 0 blocks).1)∧(aH++(BY i (blocks.drop i)).2=(BY 0 blocks).2)) (fun (i,aG,r_p_0,n_p_0,c_p_0,aH,r_p_1,n_p_1,c_p_1)=>blocks.length - i) AA ⟨AA,AA,AA,AA,trivial⟩ ⟨Chg.refl _ _,ao,BU,aB,BU,cK,aX,AD,AD,AD,AD,AD⟩ ?_
 rintro ⟨i,aG,r_p_0,n_p_0,c_p_0,aH,r_p_1,n_p_1,c_p_1⟩ eh aS ⟨ab,aj,ax,W,ay,bB,ak,dI,dJ,dK,dL,dM⟩ aJ
 have dN:=Ay ax cE E.lt
 have cS:=Ay ax (Nb.symm cP) aX.lt
 have cT:=Bz ax cF C.size
 have dO:=BA ax cG C.size
 have dP:=Ay ay cJ E.lt
 have bC:=Ay ay (Nb.symm cQ) aX.lt
 have cU:=Bz ay cL C.size
 have dQ:=BA ay cM C.size
 have cV:Cov (ins [al,au,ac]) aL al:=⟨.inl AI⟩
 have cW:Cov (ins [al,au,ac]) aL au:=⟨.inl AJ⟩
 have dR:Cov (ins [al,au,ac]) aL ac:=⟨.inl AK⟩
 have dS:=BA ax cV (Nat.le_refl _)
 have dT:=BA ay cW (Nat.le_refl _)
 have bD:Mv [ac,au,al,ae] [ac,r_p_1,r_p_0,ae] aL aS:=Mv.inl ab (all_cons AK (all_cons AJ (all_cons AI all_nil))) (all_cons (.inl AI) (all_cons (Bb ay AJ) (all_cons (Bb ax AK) (all_cons (.inl AL) all_nil))))
 replace ⟨h1,E,C⟩:=(sp bD ab).g3 h1 E C
 have dU:=aj.len
 have dW:=W.len
 refine .s<|.s<|.g<|.r 3<|.bp ((i:Int)< (blocks.length:Int)) (fun cX=>?_) (fun cX=>?_)
 ·refine .d<|.ct<|.sk<|.s<|.b 1<|.s<|.g<|.r 2 ?_
  have cY:i< blocks.length:=AB
  refine .ix i 1 h1 cY ?_
  obtain ⟨aM,aK⟩:∃ y,blocks[i]? = some y:=⟨_,AU AB⟩
  have dm:=Ai aK; have cZ:=AV aK
  obtain ⟨_,⟨dY,dZ,d0,rfl,bE⟩,bK⟩:=h1.elem i aM aK
  have bL:=bE.len
  subst bL
  refine .lh 0 bK<|.r 1<|.bp ((aM.length:Int) > 0) (fun bM=>?_) (fun bM=>.d<|.cf<|.sk<|.ib 1<|.g<|.r 1<|.it ((i:Int)+1)<|.r 1<|.d<|aJ (i+1,aG,r_p_0,n_p_0,c_p_0,aH,r_p_1,n_p_1,c_p_1) _ _ ⟨AA,AA,AA,AA,trivial⟩ ⟨ab,aj,ax,W,ay,bB,ak,(by grind [BY]),(by grind [BY]),(by grind [BY]),(by grind [BY]),(by grind [BY])⟩ (by (simp only []; omega)))
  refine .d<|.ct<|.s<|.g<|.r 1<|.lb ak<|.r 1<|.it ((i:Int)+1)<|.ns 1 3 [vI ((i:Int)+1)] fun bF d3 av aY bN bO=>?_
  have bP:=AX av E.lt
  have aZ:=AX av aj.lt
  have bQ:=AX av W.lt
  have bR:=AX av ak.lt
  have bS:=Ae av C.size
  replace ⟨h1,E,aj,W,ak,C,ab⟩:=(se [ac,r_p_1,r_p_0,ae] aY).g7 h1 E aj W ak C ab
  have aT:nin (ge w.heap.size) [ac,r_p_1,r_p_0,ae] bF∧bF≠r_p_0:=BR bS (all_cons bR (all_cons bQ (all_cons aZ (all_cons bP all_nil)))) aZ
  refine RG.Ax (T:=34) (ty:=34) (y:=(i:Int)+1) aj bN AA AA rfl aT (by grind) fun af bG d4 J aq ba=>?_
  have bT:=Ag aq (Nb.symm bB) W.lt
  have bU:=Ag aq cS ak.lt
  have bV:=CB aq ax ab.size
  replace ⟨h1,E,W,ak,C,ab⟩:=(sa [ac,r_p_1,r_p_0,ae] ba aq).g6 h1 E W ak C ab
  replace J:=J.rn r_p_0
  have dq:=J.len
  refine .r 1<|.ss 0 (vS af (n_p_0+1) bG) ak fun aD bc aa bW=>?_
  replace ⟨h1,E,J,W,C,ab⟩:=(so [ac,r_p_1,af,ae] bc).g6 h1 E J W C ab
  refine .d ?_
  replace h1:=h1.BO
  have bX:Gb (ac+1) aD.heap.size:=aa.lt
  refine .gd (mtb [af,r_p_1] aD.heap.size) 9 fun c7 aN=>?_
  replace ⟨h1,E,J,W,aa,C,ab⟩:=(se [ac,r_p_1,af,ae] aN).g7 h1 E J W aa C ab
  have aO:Chg (mtb [af,r_p_1] aD.heap.size) aD c7:=Chg.Cb (Chg.refl (mtb [af,r_p_1] aD.heap.size) aD) aN
  refine .r [0]<|.lb 1 aa (BL (all_cons (Nb.symm bU) (all_cons (Nb.symm bC) all_nil)) bX)<|.r [3,4] ?_
  have bY:i< blocks.length:=AB
  refine .ix 5 i 1 h1 bY ?_
  obtain ⟨_,⟨c8,d5,c9,rfl,az⟩,bZ⟩:=h1.elem i aM aK
  have b0:=az.len
  subst b0
  refine .lh 6 0 bZ (h1.nS (Dd aK) (all_cons AK (all_cons AJ all_nil)))<|.go 2<|.ns 0 56 [] fun d6 bd=>?_
  replace ⟨E,J,W,aa,az,C,ab,aO⟩:=(se [ac,r_p_1,af,ae] bd).g8 E J W aa az C ab aO
  intro aE da ah bg b6 b7
  have b8:=AX ah E.lt
  have b9:=AX ah J.lt
  have cd:=AX ah W.lt
  have ce:=AX ah aa.lt
  have cg:=Ae ah C.size
  have dt:=C.cn ah
  have du:=ab.cn ah
  have ci:=aO.cn ah
  replace ⟨E,J,W,aa,az,C,ab⟩:=(sn [ac,r_p_1,af,ae] bg ah).g7 E J W aa az C ab
  have aP:Own (α:=Row) da aE 56 (nin (ge w.heap.size) [aE,ac,r_p_1,af,ae]) 0 0 []:=Own.Aj b6
  refine .go 7<|GE.append (T:=62) (ty:=62) (args:=[vS aE 0 0,.slice c8 aM.length c9]) AA fun d7 bh=>?_
  replace ⟨E,J,W,aa,az,aP,C,ab⟩:=(se [aE,ac,r_p_1,af,ae] bh).g8 E J W aa az aP C ab
  obtain ⟨aF,db,d8,bi,ag,ai,aQ,cj⟩:=Own.BG (P:=Tryz.prog) (T:=62) (ty:=62) Bx aP AA az (fun b h e=>h.2 (e▸AI)) (by grind)
  refine ⟨_,_,bi,Chg.toS aQ (Cov.toS ci),?_⟩
  have dv:=Ag ai b8 E.lt
  have dw:=Ag ai b9 J.lt
  have dx:=Ag ai cd W.lt
  have dy:=Ag ai ce aa.lt
  have ck:=Bt ai cg C.size
  replace ⟨E,J,W,aa,C,ab⟩:=(sa [aE,ac,r_p_1,af,ae] aQ ai).g6 E J W aa C ab
  replace ag:=ag.rn aE
  refine .go 8<|.ns 1 62 [vS aF (0+aM.length) db] fun d9 bj=>?_
  replace ⟨E,J,W,aa,ag,C,ab⟩:=(se [aF,ac,r_p_1,af,ae] bj).g7 E J W aa ag C ab
  intro bH ec aw bk aR cm
  have co:=AX aw E.lt
  have cp:=AX aw J.lt
  have bm:=AX aw W.lt
  have cq:=AX aw aa.lt
  have cr:=Ae aw C.size
  replace ⟨E,J,W,aa,ag,C,ab⟩:=(se [aF,ac,r_p_1,af,ae] bk).g7 E J W aa ag C ab
  refine .d fun de bn=>?_
  replace ⟨E,J,W,aa,ag,aR,C,ab⟩:=(se [aF,ac,r_p_1,af,ae] bn).g8 E J W aa ag aR C ab
  have df:=ag.sl ck
  replace ⟨J,W⟩:=(sd de [aF,ac,r_p_1,af,ae] aF).g2 J W
  have aU:nin (ge w.heap.size) [ac,r_p_1,af,ae] bH∧bH≠r_p_1:=BR cr (all_cons cq (all_cons bm (all_cons cp (all_cons co all_nil)))) bm
  refine RG.Ax (T:=46) (ty:=46) (y:=([]++aM)) W aR AA AA ⟨_,_,_,rfl,df.oi⟩ aU (by grind) fun bo bI ed am ar bq=>?_
  have cu:=Ag ar (Nb.symm bT) J.lt
  have dB:=Ag ar bC aa.lt
  have cw:=CB ar ay ab.size
  replace ⟨E,J,aa,C,ab⟩:=(sa [ac,r_p_1,af,ae] bq ar).g5 E J aa C ab
  replace am:=am.rn r_p_1
  have dC:=am.len
  refine .r 1<|.ss 1 (vS bo (n_p_1+1) bI) aa fun ee br cx cy=>?_
  replace ⟨E,J,am,C,ab⟩:=(so [ac,bo,af,ae] br).g5 E J am C ab
  exact .d<|.ib 1<|.g<|.r 1<|.it ((i:Int)+1)<|.r 1<|.d<|aJ (i+1,(aG++[(i:Int)+1]),af,n_p_0+1,bG,(aH++[([]++aM)]),bo,n_p_1+1,bI) _ _ ⟨AA,AA,AA,AA,trivial⟩ ⟨ab,J,bV,am,cw,cu,cx,(by grind [BY]),(by grind [BY]),(by grind [BY]),(by grind [BY]),(by grind [BY])⟩ (by (simp only []; omega))
 refine .d<|.cf<|.x 0 rfl<|.s<|.g<|.ln ak<|.sc [vS r_p_0 n_p_0 c_p_0,vS r_p_1 n_p_1 c_p_1] E fun bJ bt cz cA=>?_
 replace ⟨aj,W,C⟩:=(so [ac,r_p_1,r_p_0,ae] bt).g3 aj W C
 refine .d ?_
 have bu:=aj.sl cT
 replace W:=(sd bJ [ac,r_p_1,r_p_0,ae] r_p_0).g1 W
 have dg:=W.sl cU
 replace bu:=(sd bJ [ac,r_p_1,ae] r_p_1).g1 bu
 exact .rb func148 results148 cz ⟨(VS.of (y:=(⟨aG,aH⟩:Prt)) ⟨_,rfl,⟨_,_,_,_,_,_,rfl,bu.w1,dg.w1⟩⟩ (by grind [BY,C2])),C⟩
end Go.Proofs.YtggnnidleedpaaaGreat
namespace Go.Proofs.YtggnnidleedpaaaGreat
set_option maxRecDepth 100000
set_option maxHeartbeats 4000000
variable {w:World} {F:Nat→Prop} {a1 a2:Option Addr} {n1 c1 n2 c2:Nat}
theorem Es (n:List Tag) (h1:RepS w F a1 n1 c1 n)  : Calls Tryz.prog 63 [.slice a1 n1 c1].toArray w (BB fun rv w'=>rv=.bool (BC n)∧Ext w w'):=by
 refine goT func63 ?_
 obtain ⟨rfl,az,h1⟩:=h1.tp
 refine .s<|.g<|.r 1<|.d<|.s<|.s<|.g<|.r 1<|.d<|.b 0<|T.loop (X:=Nat) 0 (fun i=>[(0,.slice a1 n.length c1),(3,vI (i:Int))]) (fun i aa=>Chg (ins []) w aa∧(i≤n.length)∧(DV (prev n i) (n.drop i)=DV none n)) (fun i=>n.length - i) AA ⟨AA,AA,trivial⟩ ⟨Chg.refl _ _,(by simp [prev]),(by simp [prev])⟩ ?_
 rintro i aH aa ⟨C,aA,aB⟩ J
 have af:Mv [] [] w aa:=Mv.inl C all_nil all_nil
 replace h1:=(sp af C).g1 h1
 have E:Chg nil w aa:=Chg.Cr (Chg.refl nil w) C all_nil
 refine .s<|.s<|.g<|.r 3<|.bp ((i:Int)< (n.length:Int)) (fun ao=>?_) (fun ao=>?_)
 ·refine .d<|.ct<|.sk<|.s<|.b 1<|.s<|.gd nil 21 fun aI ag=>?_
  replace ⟨h1,E,C⟩:=(se [] ag).g3 h1 E C
  refine .r [0,1] ?_
  have aq:i< n.length:=AB
  refine .ix 2 i 2 h1 aq ?_
  obtain ⟨W,ab⟩:∃ y,n[i]? = some y:=⟨_,AU AB⟩
  have aC:=Ai ab; have aw:=AV ab
  obtain ⟨_,rfl,ah⟩:=h1.elem i W ab
  refine .lg 3 0 ah id<|GA.Dt (i:=4) AA (fun ay aD=>EN W (w:=ay) (F:=all)) ?_
  cases aE:(Bq W)
  ·refine .r [5,6]<|GA.skip AA fun aJ ai=>?_
   replace ⟨h1,E,C⟩:=(se [] ai).g3 h1 E C
   exact .r 3<|.d<|.ct<|.s<|.g<|.r 1<|.d<|.rt func63 results63 (.bool false) ⟨(AG (by grind [DV,BC,prev,Ab])),E⟩
  refine .r [5,6,7]<|GA.Ey (i:=8) ((i:Int) > 0) AA (fun ar=>?_) (fun ar=>?_)
  ·refine .r [9,10,11]<|GA.int (i:=12) ((i:Int) - 1) AA AB ?_
   have aj:i - 1< n.length:=AB
   refine GA.idx (i:=13) (i - 1) (len:=n.length) (z:=(i:Int) - 1) (sz:=2) AA AB aj (h1.addr (Nat.zero_lt_of_lt aj))<|.r [14] ?_
   obtain ⟨ae,ac⟩:∃ y,n[i - 1]? = some y:=⟨_,AU AB⟩
   obtain ⟨_,rfl,au⟩:=h1.elem (i - 1) ae ac
   refine .lh 15 0 au id<|.r [16,17] ?_
   have av:i< n.length:=AB
   refine .ix 18 i 2 h1 av<|.r [19]<|.lh 20 0 ah id<|.d fun aK ak=>?_
   replace ⟨E,C⟩:=(se [] ak).g2 E C
   refine RG.eqv (v:=.bool (!(By ae.key W.key))) AA (Qx ae.key W.key) ?_
   cases aG:(By ae.key W.key)
   ·exact .r 2<|.d<|.ct<|.s<|.g<|.r 1<|.d<|.rt func63 results63 (.bool false) ⟨(AG (by grind [DV,BC,prev,Ab])),E⟩
   exact .r 2<|.d<|.cf<|.sk<|.ib 1<|.g<|.r 1<|.it ((i:Int)+1)<|.r 1<|.d<|J (i+1) _ _ ⟨AA,AA,trivial⟩ ⟨C,AB,(by grind [DV,prev])⟩ AB
  refine .r [9]<|GA.skip AA fun aL al=>?_
  replace ⟨E,C⟩:=(se [] al).g2 E C
  exact .r 3<|.d<|.cf<|.sk<|.ib 1<|.g<|.r 1<|.it ((i:Int)+1)<|.r 1<|.d<|J (i+1) _ _ ⟨AA,AA,trivial⟩ ⟨C,AB,(by grind [DV,prev])⟩ AB
 refine .d<|.cf<|.x 0 rfl<|.s<|.g<|.r 2<|.cl (C5 (n.length:Int) 1 3 (w:=aa) (F:=all)) ?_
 rintro aM aN ⟨rfl,am⟩
 replace E:=(se [] am).g1 E
 exact .r 1<|.d<|.rt func63 results63 (.bool (inR (n.length:Int) 1 3)) ⟨(AG (by grind [DV,BC,prev,Ab])),E⟩
theorem Et (n:List Tag) (h1:RepS w F a1 n1 c1 n)  : Calls Tryz.prog 95 [.slice a1 n1 c1].toArray w (BB fun rv w'=>rv=.bool (BC n)∧Ext w w'):=by
 refine goT func95 ?_
 obtain ⟨rfl,aG,h1⟩:=h1.tp
 refine .s<|.g<|.r 1<|.d<|.s<|.s<|.g<|.r 3<|.d<|.b 0<|T.loop (X:=Nat) 0 (fun k=>[(0,.slice a1 n.length c1),(5,.slice a1 n.length c1),(6,vI (n.length:Int)),(7,vI (k:Int))]) (fun k ac=>Chg (ins []) w ac∧(k≤n.length)∧(DV (prev n k) (n.drop k)=DV none n)) (fun k=>n.length - k) AA ⟨AA,AA,AA,AA,trivial⟩ ⟨Chg.refl _ _,(by simp [prev]),(by simp [prev])⟩ ?_
 rintro k aQ ac ⟨C,aH,aI⟩ W
 have ah:Mv [] [] w ac:=Mv.inl C all_nil all_nil
 replace h1:=(sp ah C).g1 h1
 have E:Chg nil w ac:=Chg.Cr (Chg.refl nil w) C all_nil
 refine .s<|.g<|.bp ((k:Int)< (n.length:Int)) (fun av=>?_) (fun av=>?_)
 ·refine .d<|.s<|.ct<|.sk<|.s<|.b 1<|.s<|.g<|.r 1 ?_
  have aw:k< n.length:=AB
  refine .ix k 2 h1 aw ?_
  obtain ⟨aa,ae⟩:∃ y,n[k]? = some y:=⟨_,AU AB⟩
  have aJ:=Ai ae; have aD:=AV ae
  obtain ⟨_,rfl,ax⟩:=h1.elem k aa ae
  refine .lg 0 ax<|.np 67 [.string (bs []),.string (bs [])] fun au aR ab ai ay az=>?_
  have aK:=E.cn ab
  have aL:=C.cn ab
  replace ⟨h1,E,C⟩:=(sn [] ai ab).g3 h1 E C
  refine .r 1<|.sc [vT aa.key,vT aa.val] ay fun aS aj J aA=>?_
  replace ⟨h1,E,C⟩:=(so [au] aj).g3 h1 E C
  refine .d<|.s<|.gd nil 15 fun aT ak=>?_
  replace ⟨h1,J,E,C⟩:=(se [au] ak).g4 h1 J E C
  refine .ln 0 J id<|GA.Dt (i:=1) AA (fun aF aM=>Kz aa (w:=aF) (F:=all)) ?_
  cases aN:(Bq aa)
  ·refine .r [2,3]<|GA.skip AA fun aU al=>?_
   replace ⟨h1,J,E,C⟩:=(se [au] al).g4 h1 J E C
   exact .r 3<|.d<|.ct<|.s<|.g<|.r 1<|.d<|.rt func95 results95 (.bool false) ⟨(AG (by grind [DV,BC,prev,Ab])),E⟩
  refine .r [2,3,4]<|GA.Ey (i:=5) ((k:Int) > 0) AA (fun aB=>?_) (fun aB=>?_)
  ·refine .r [6,7,8]<|GA.int (i:=9) ((k:Int) - 1) AA AB ?_
   have am:k - 1< n.length:=AB
   refine GA.idx (i:=10) (k - 1) (len:=n.length) (z:=(k:Int) - 1) (sz:=2) AA AB am (h1.addr (Nat.zero_lt_of_lt am))<|.r [11] ?_
   obtain ⟨ag,af⟩:∃ y,n[k - 1]? = some y:=⟨_,AU AB⟩
   obtain ⟨_,rfl,aC⟩:=h1.elem (k - 1) ag af
   refine .lh 12 0 aC id<|.r [13]<|.lb 14 J id<|.d fun aV ao=>?_
   replace ⟨E,C⟩:=(se [] ao).g2 E C
   refine RG.eqv (v:=.bool (!(By ag.key aa.key))) AA (Qx ag.key aa.key) ?_
   cases aP:(By ag.key aa.key)
   ·exact .r 2<|.d<|.ct<|.s<|.g<|.r 1<|.d<|.rt func95 results95 (.bool false) ⟨(AG (by grind [DV,BC,prev,Ab])),E⟩
   exact .r 2<|.d<|.cf<|.sk<|.ib 1<|.g<|.it ((k:Int)+1)<|.r 1<|.d<|W (k+1) _ _ ⟨AA,AA,AA,AA,trivial⟩ ⟨C,AB,(by grind [DV,prev])⟩ AB
  refine .r [6]<|GA.skip AA fun aW aq=>?_
  replace ⟨E,C⟩:=(se [] aq).g2 E C
  exact .r 3<|.d<|.cf<|.sk<|.ib 1<|.g<|.it ((k:Int)+1)<|.r 1<|.d<|W (k+1) _ _ ⟨AA,AA,AA,AA,trivial⟩ ⟨C,AB,(by grind [DV,prev])⟩ AB
 refine .d<|.s<|.cf<|.x 0 rfl<|.s<|.g<|.r 2<|.cl (CM (n.length:Int) 1 3 (w:=ac) (F:=all)) ?_
 rintro aX aY ⟨rfl,ar⟩
 replace E:=(se [] ar).g1 E
 exact .r 1<|.d<|.rt func95 results95 (.bool (inR (n.length:Int) 1 3)) ⟨(AG (by grind [DV,BC,prev,Ab])),E⟩
theorem Df (b:List Row) (h1:RepS w F a1 n1 c1 b)  : Calls Tryz.prog 73 [.slice a1 n1 c1].toArray w (BB fun rv w'=>rv=.bool (Bp b)∧Ext w w'):=by
 refine goT func73 ?_
 obtain ⟨rfl,aG,h1⟩:=h1.tp
 refine .s<|.g<|.r 1<|.d<|.s<|.s<|.g<|.r 3<|.d<|.b 0<|T.loop (X:=Nat) 0 (fun k=>[(0,.slice a1 b.length c1),(5,.slice a1 b.length c1),(6,vI (b.length:Int)),(7,vI (k:Int))]) (fun k af=>Chg (ins []) w af∧(k≤b.length)∧(CX (prev b k) (b.drop k)=CX none b)) (fun k=>b.length - k) AA ⟨AA,AA,AA,AA,trivial⟩ ⟨Chg.refl _ _,(by simp [prev]),(by simp [prev])⟩ ?_
 rintro k aP af ⟨C,aH,aI⟩ W
 have ag:Mv [] [] w af:=Mv.inl C all_nil all_nil
 replace h1:=(sp ag C).g1 h1
 have E:Chg nil w af:=Chg.Cr (Chg.refl nil w) C all_nil
 refine .s<|.g<|.bp ((k:Int)< (b.length:Int)) (fun ar=>?_) (fun ar=>.d<|.s<|.cf<|.x 0 rfl<|.s<|.g<|.r 4<|.d<|.rt func73 results73 (.bool (decide ((b.length:Int)≤24))) ⟨(AG (by grind [CX,Bp,prev,Ab])),E⟩)
 refine .d<|.s<|.ct<|.sk<|.s<|.b 1<|.s<|.g<|.r 1 ?_
 have au:k< b.length:=AB
 refine .ix k 2 h1 au ?_
 obtain ⟨ab,ac⟩:∃ y,b[k]? = some y:=⟨_,AU AB⟩
 have aJ:=Ai ac; have aD:=AV ac
 obtain ⟨_,rfl,av⟩:=h1.elem k ab ac
 refine .lg 0 av<|.np 56 [vI 0,vI 0] fun aq aQ aa ah aw ax=>?_
 have aK:=E.cn aa
 have aL:=C.cn aa
 replace ⟨h1,E,C⟩:=(sn [] ah aa).g3 h1 E C
 refine .r 1<|.sc [vI ab.t,vI ab.v] aw fun aR ai J ay=>?_
 replace ⟨h1,E,C⟩:=(so [aq] ai).g3 h1 E C
 refine .d<|.s<|.gd nil 15 fun aS aj=>?_
 replace ⟨h1,J,E,C⟩:=(se [aq] aj).g4 h1 J E C
 refine .ln 0 J id<|GA.Dt (i:=1) AA (fun aF aM=>FH ab (w:=aF) (F:=all)) ?_
 cases aN:(Bi ab)
 ·refine .r [2,3]<|GA.skip AA fun aT ak=>?_
  replace ⟨h1,J,E,C⟩:=(se [aq] ak).g4 h1 J E C
  exact .r 3<|.d<|.ct<|.s<|.g<|.r 1<|.d<|.rt func73 results73 (.bool false) ⟨(AG (by grind [CX,Bp,prev,Ab])),E⟩
 refine .r [2,3,4]<|GA.Ey (i:=5) ((k:Int) > 0) AA (fun az=>?_) (fun az=>?_)
 ·refine .r [6,7,8]<|GA.int (i:=9) ((k:Int) - 1) AA AB ?_
  have al:k - 1< b.length:=AB
  refine GA.idx (i:=10) (k - 1) (len:=b.length) (z:=(k:Int) - 1) (sz:=2) AA AB al (h1.addr (Nat.zero_lt_of_lt al))<|.r [11] ?_
  obtain ⟨aA,ae⟩:∃ y,b[k - 1]? = some y:=⟨_,AU AB⟩
  obtain ⟨_,rfl,aB⟩:=h1.elem (k - 1) aA ae
  refine .lh 12 0 aB id<|.r [13]<|.lb 14 J id<|.d fun aU am=>?_
  replace ⟨E,C⟩:=(se [] am).g2 E C
  exact .bp (aA.t≥ab.t) (fun aC=>.r 2<|.d<|.ct<|.s<|.g<|.r 1<|.d<|.rt func73 results73 (.bool false) ⟨(AG (by grind [CX,Bp,prev,Ab])),E⟩) fun aC=>.r 2<|.d<|.cf<|.sk<|.ib 1<|.g<|.it ((k:Int)+1)<|.r 1<|.d<|W (k+1) _ _ ⟨AA,AA,AA,AA,trivial⟩ ⟨C,AB,(by grind [CX,prev])⟩ AB
 refine .r [6]<|GA.skip AA fun aV ao=>?_
 replace ⟨E,C⟩:=(se [] ao).g2 E C
 exact .r 3<|.d<|.cf<|.sk<|.ib 1<|.g<|.it ((k:Int)+1)<|.r 1<|.d<|W (k+1) _ _ ⟨AA,AA,AA,AA,trivial⟩ ⟨C,AB,(by grind [CX,prev])⟩ AB
theorem Cf (p:Prt) (h1:RepS w F a1 n1 c1 p.ids) (h2:RepS w F a2 n2 c2 p.blocks)  : Calls Tryz.prog 39 [.agg #[.slice a1 n1 c1,.slice a2 n2 c2]].toArray w (BB fun rv w'=>rv=.bool (Az p)∧Ext w w'):=by
 refine goT func39 ?_
 obtain ⟨rfl,bg,h1⟩:=h1.tp
 obtain ⟨rfl,bh,h2⟩:=h2.tp
 refine .s<|.g<|.np 48 [.slice a1 p.ids.length c1,.slice a2 p.blocks.length c2] fun ac aA al ae C aB=>?_
 replace ⟨h1,h2⟩:=(sn [] ae al).g2 h1 h2
 have E:=ae
 refine .r 1<|.d<|.s<|.s<|.g<|.r 1<|.lb C<|.r 2<|.lb C<|.r 1<|.ne (p.ids.length:Int) (p.blocks.length:Int) (fun aC=>.d<|.ct<|.s<|.g<|.r 1<|.d<|.rt func39 results39 (.bool false) ⟨(AG (by grind [CA,Az,prev,Ab])),E⟩) fun aC=>.d<|.cf<|.sk<|.s<|.s<|.g<|.r 1<|.lb C<|.r 2<|.d<|.b 0<|T.loop (X:=Nat) 0 (fun k=>[(1,.pointer (some ⟨ac,0,none⟩)),(13,.slice a1 p.ids.length c1),(14,vI (p.ids.length:Int)),(15,vI (k:Int))]) (fun k aj=>Chg (ins []) aA aj∧(k≤p.ids.length)∧(CA (prev p.ids k) (p.ids.drop k) (p.blocks.drop k)=CA none p.ids p.blocks)) (fun k=>p.ids.length - k) AA ⟨AA,AA,AA,AA,trivial⟩ ⟨Chg.refl _ _,(by simp [prev]),(by simp [prev])⟩ ?_
 rintro k bB aj ⟨J,bi,bj⟩ W
 have am:Mv [ac] [ac] aA aj:=Mv.inl J all_nil (all_cons (.inl AI) all_nil)
 replace ⟨h1,h2,C,E⟩:=(sp am J).g4 h1 h2 C E
 refine .s<|.g<|.bp ((k:Int)< (p.ids.length:Int)) (fun aD=>?_) (fun aD=>.d<|.s<|.cf<|.x 0 rfl<|.s<|.g<|.r 1<|.d<|.rt func39 results39 (.bool true) ⟨(AG (by grind [CA,Az,prev,Ab])),E⟩)
 refine .d<|.s<|.ct<|.sk<|.s<|.b 1<|.s<|.g<|.r 1 ?_
 have aE:k< p.ids.length:=AB
 refine .ix k 1 h1 aE ?_
 obtain ⟨ak,af⟩:∃ y,p.ids[k]? = some y:=⟨_,AU AB⟩
 have bk:=Ai af; have aY:=AV af
 obtain ⟨_,rfl,aF⟩:=h1.elem k ak af
 refine .lh 0 aF<|.r 2<|.d<|.s<|.g<|.r 1<|.cl (CM ak 1 6 (w:=aj) (F:=all)) ?_
 rintro bC aG ⟨rfl,ao⟩
 replace ⟨h1,h2,C,E,J⟩:=(se [ac] ao).g5 h1 h2 C E J
 cases aq:(inR ak 1 6)
 ·exact .r 33<|.d<|.ct<|.s<|.g<|.r 1<|.d<|.rt func39 results39 (.bool false) ⟨(AG (by (have hdd:=List.drop_eq_getElem_cons (l:=p.blocks) (i:=k) AB; grind [CA,Az,prev,Ab]))),E⟩
 refine .r 3<|.bp ((k:Int) > 0) (fun aH=>?_) (fun aH=>?_)
 ·refine .r 2<|.lb C<|.r 1<|.it ((k:Int) - 1) ?_
  have ar:k - 1< p.ids.length:=AB
  refine RG.idx (k - 1) (len:=p.ids.length) (i:=(k:Int) - 1) (sz:=1) AA AB ar (h1.addr (Nat.zero_lt_of_lt ar)) ?_
  obtain ⟨aI,ag⟩:∃ y,p.ids[k - 1]? = some y:=⟨_,AU AB⟩
  obtain ⟨_,rfl,aJ⟩:=h1.elem (k - 1) aI ag
  refine .lh 0 aJ<|.r 1<|.bp (aI≥ak) (fun aK=>.r 20<|.d<|.ct<|.s<|.g<|.r 1<|.d<|.rt func39 results39 (.bool false) ⟨(AG (by (have hdd:=List.drop_eq_getElem_cons (l:=p.blocks) (i:=k) AB; grind [CA,Az,prev,Ab]))),E⟩) fun aK=>.r 4<|.lb C<|.r 1 ?_
  have aL:k< p.blocks.length:=AB
  refine .ix k 1 h2 aL ?_
  obtain ⟨ah,aa⟩:∃ y,p.blocks[k]? = some y:=⟨_,AU AB⟩
  have bq:=Ai aa
  obtain ⟨_,⟨bD,bE,bF,rfl,aw⟩,aM⟩:=h2.elem k ah aa
  have aN:=aw.len
  subst aN
  refine .lh 0 aM<|.cl (Df ah aw.ta (w:=aG) (F:=all)) ?_
  rintro bG bH ⟨rfl,au⟩
  replace ⟨h2,C,E,J⟩:=(se [ac] au).g4 h2 C E J
  cases bt:(Bp ah)
  ·exact .r 11<|.d<|.ct<|.s<|.g<|.r 1<|.d<|.rt func39 results39 (.bool false) ⟨(AG (by grind [CA,Az,prev,Ab])),E⟩
  refine .r 4<|.lb C<|.r 1 ?_
  have aO:k< p.blocks.length:=AB
  refine .ix k 1 h2 aO ?_
  obtain ⟨_,⟨bI,bJ,bK,rfl,bd⟩,aP⟩:=h2.elem k ah aa
  have aQ:=bd.len
  subst aQ
  exact .lh 0 aP<|.r 1<|.eq (ah.length:Int) 0 (fun aR=>.r 1<|.d<|.ct<|.s<|.g<|.r 1<|.d<|.rt func39 results39 (.bool false) ⟨(AG (by grind [CA,Az,prev,Ab])),E⟩) fun aR=>.r 1<|.d<|.cf<|.sk<|.ib 1<|.g<|.it ((k:Int)+1)<|.r 1<|.d<|W (k+1) _ _ ⟨AA,AA,AA,AA,trivial⟩ ⟨J,AB,(by grind [CA,prev])⟩ AB
 refine .r 13<|.lb C<|.r 1 ?_
 have aS:k< p.blocks.length:=AB
 refine .ix k 1 h2 aS ?_
 obtain ⟨ai,ab⟩:∃ y,p.blocks[k]? = some y:=⟨_,AU AB⟩
 have bu:=Ai ab
 obtain ⟨_,⟨bL,bM,bN,rfl,ax⟩,aT⟩:=h2.elem k ai ab
 have aU:=ax.len
 subst aU
 refine .lh 0 aT<|.cl (Df ai ax.ta (w:=aG) (F:=all)) ?_
 rintro bO bP ⟨rfl,av⟩
 replace ⟨h2,C,E,J⟩:=(se [ac] av).g4 h2 C E J
 cases bw:(Bp ai)
 ·exact .r 11<|.d<|.ct<|.s<|.g<|.r 1<|.d<|.rt func39 results39 (.bool false) ⟨(AG (by grind [CA,Az,prev,Ab])),E⟩
 refine .r 4<|.lb C<|.r 1 ?_
 have aV:k< p.blocks.length:=AB
 refine .ix k 1 h2 aV ?_
 obtain ⟨_,⟨bQ,bz,bA,rfl,aW⟩,aX⟩:=h2.elem k ai ab
 have ay:=aW.len
 subst ay
 exact .lh 0 aX<|.r 1<|.eq (ai.length:Int) 0 (fun az=>.r 1<|.d<|.ct<|.s<|.g<|.r 1<|.d<|.rt func39 results39 (.bool false) ⟨(AG (by grind [CA,Az,prev,Ab])),E⟩) fun az=>.r 1<|.d<|.cf<|.sk<|.ib 1<|.g<|.it ((k:Int)+1)<|.r 1<|.d<|W (k+1) _ _ ⟨AA,AA,AA,AA,trivial⟩ ⟨J,AB,(by grind [CA,prev])⟩ AB
theorem Dg (s:List Int) (v:Int) (h1:RepS w F a1 n1 c1 s)  : Calls Tryz.prog 128 [.slice a1 n1 c1,.int .i64 v].toArray w (BB fun rv w'=>rv=.int .i64 (Db v 0 s)∧Ext w w'):=by
 refine goT func128 ?_
 obtain ⟨rfl,aj,h1⟩:=h1.tp
 refine .s<|.g<|.r 1<|.d<|.s<|.s<|.g<|.r 3<|.d<|.b 0<|T.loop (X:=Nat) 0 (fun k=>[(0,.slice a1 s.length c1),(1,vI v),(7,vI (s.length:Int)),(8,vI (k:Int))]) (fun k W=>Chg (ins []) w W∧(k≤s.length)∧(Db v k (s.drop k)=Db v 0 s)) (fun k=>s.length - k) AA ⟨AA,AA,AA,AA,trivial⟩ ⟨Chg.refl _ _,AD,AD⟩ ?_
 rintro k ao W ⟨C,ak,al⟩ E
 have aa:Mv [] [] w W:=Mv.inl C all_nil all_nil
 replace h1:=(sp aa C).g1 h1
 have ab:Chg nil w W:=Chg.Cr (Chg.refl nil w) C all_nil
 refine .s<|.g<|.bp ((k:Int)< (s.length:Int)) (fun ac=>?_) (fun ac=>.d<|.s<|.cf<|.x 0 rfl<|.s<|.g<|.r 1<|.d<|.rt func128 results128 (vI (-1)) ⟨(congrArg (Value.int .i64) (by grind [Db,Ab])),ab⟩)
 refine .d<|.s<|.ct<|.sk<|.s<|.b 1<|.s<|.g<|.r 2<|.d<|.s<|.g<|.r 3 ?_
 have ae:k< s.length:=AB
 refine .ix k 1 h1 ae ?_
 obtain ⟨af,J⟩:∃ y,s[k]? = some y:=⟨_,AU AB⟩
 have am:=Ai J
 obtain ⟨_,rfl,ag⟩:=h1.elem k af J
 exact .lh 0 ag<|.eq v af (fun ah=>.d<|.ct<|.s<|.g<|.r 2<|.d<|.rt func128 results128 (vI (k:Int)) ⟨(congrArg (Value.int .i64) (by grind [Db,Ab])),ab⟩) fun ah=>.d<|.cf<|.sk<|.ib 1<|.g<|.it ((k:Int)+1)<|.r 1<|.d<|E (k+1) _ _ ⟨AA,AA,AA,AA,trivial⟩ ⟨C,AB,(by grind [Db])⟩ AB
theorem Fm (x:List Int) (h1:RepS w F a1 n1 c1 x) (p0:0< x.length):Calls Tryz.prog 86 [.slice a1 n1 c1].toArray w (BB fun rv w'=>rv=.int .i64 (maxOf x)∧Ext w w'):=by
 refine goT func86 ?_
 obtain ⟨rfl,aq,h1⟩:=h1.tp
 refine .s<|.g<|.r 1<|.d<|.s<|.s<|.g<|.r 2<|.bp ((x.length:Int)< 1) (fun af=>.d<|.ct<|.g<|absurd (show False by omega) id) fun af=>.d<|.cf<|.sk<|.s<|.g<|.r 1 ?_
 have ab:0< x.length:=AB
 refine RG.idx 0 (len:=x.length) (i:=0) (sz:=1) AA AB ab (h1.addr (Nat.zero_lt_of_lt ab)) ?_
 obtain ⟨ag,E⟩:∃ y,x[0]? = some y:=⟨_,AU AB⟩
 have ar:=Ai E
 obtain ⟨_,rfl,ah⟩:=h1.elem 0 ag E
 refine .lh 0 ah<|.r 1<|.d<|.s<|.s<|.g<|.r 1<|.d<|.b 0<|T.loop (X:=Int × Nat) (ag,1) (fun (m,i)=>[(0,.slice a1 x.length c1),(3,vI m),(4,vI (i:Int))]) (fun (m,i) aa=>Chg (ins []) w aa∧(i≤x.length)∧(Js m (x.drop i)=maxOf x)) (fun (m,i)=>x.length - i) AA ⟨AA,AA,AA,trivial⟩ ⟨Chg.refl _ _,AB,(by grind [maxOf])⟩ ?_
 rintro ⟨m,i⟩ ax aa ⟨C,au,av⟩ J
 have ac:Mv [] [] w aa:=Mv.inl C all_nil all_nil
 replace h1:=(sp ac C).g1 h1
 have ai:Chg nil w aa:=Chg.Cr (Chg.refl nil w) C all_nil
 refine .s<|.s<|.g<|.r 3<|.bp ((i:Int)< (x.length:Int)) (fun aj=>?_) (fun aj=>.d<|.cf<|.x 0 rfl<|.s<|.g<|.r 2<|.d<|.rt func86 results86 (vI m) ⟨(congrArg (Value.int .i64) (by grind [Js,Ab])),ai⟩)
 refine .d<|.ct<|.sk<|.s<|.b 1<|.g<|.r 3 ?_
 have ak:i< x.length:=AB
 refine .ix i 1 h1 ak ?_
 obtain ⟨ae,W⟩:∃ y,x[i]? = some y:=⟨_,AU AB⟩
 have aw:=Ai W
 obtain ⟨_,rfl,al⟩:=h1.elem i ae W
 exact .lh 0 al<|.r 2<|.d<|.ib 1<|.g<|.r 1<|.it ((i:Int)+1)<|.r 1<|.d<|J ((if ae > m then ae else m),i+1) _ _ ⟨AA,AA,AA,trivial⟩ ⟨C,AB,(by grind [Js])⟩ (by (simp only []; omega))
theorem Ga (n:List Tag) (h1:RepS w F a1 n1 c1 n) (p0:n.length≤1000000) (p1:∀ t∈n,t.key.length≤1000000∧t.val.length≤1000000):Calls Tryz.prog 166 [.slice a1 n1 c1].toArray w (BB fun rv w'=>rv=.string (bs (text n))∧Ext w w'):=by
 refine goT func166 ?_
 obtain ⟨rfl,ay,h1⟩:=h1.tp
 refine .s<|.g<|.r 1<|.d<|.s<|.g<|.r 1<|.d<|.s<|.s<|.g<|.r 1<|.d<|.b 0<|T.loop (X:=Str × Nat) ([],0) (fun (out,i)=>[(0,.slice a1 n.length c1),(3,vT out),(4,vI (i:Int))]) (fun (out,i) ae=>Chg (ins []) w ae∧(i≤n.length)∧(out.length≤3000000 * i)∧(out++Fj i (n.drop i)=text n)) (fun (out,i)=>n.length - i) AA ⟨AA,AA,AA,trivial⟩ ⟨Chg.refl _ _,(by simp [text]),(by simp [text]),(by simp [text])⟩ ?_
 rintro ⟨out,i⟩ aE ae ⟨C,az,aA,aB⟩ J
 have af:Mv [] [] w ae:=Mv.inl C all_nil all_nil
 replace h1:=(sp af C).g1 h1
 have E:Chg nil w ae:=Chg.Cr (Chg.refl nil w) C all_nil
 refine .s<|.s<|.g<|.r 3<|.bp ((i:Int)< (n.length:Int)) (fun am=>?_) (fun am=>.d<|.cf<|.x 0 rfl<|.s<|.g<|.r 2<|.d<|.rt func166 results166 (vT out) ⟨(congrArg (fun s=>Value.string (bs s)) (by grind [Fj,Ab])),E⟩)
 refine .d<|.ct<|.sk<|.s<|.b 1<|.s<|.s<|.g<|.r 1<|.bp ((i:Int) > 0) (fun ao=>?_) (fun ao=>?_)
 ·refine .d<|.ct<|.g<|.r 1<|RG.cat (t:=9) (s:=out) (u:=[44]) AA (by grind)<|.r 1<|.d<|.gd nil 13 fun aF ag=>?_
  replace ⟨h1,E,C⟩:=(se [] ag).g3 h1 E C
  refine .r [0,1,2] ?_
  have aq:i< n.length:=AB
  refine .ix 3 i 2 h1 aq<|.r [4] ?_
  obtain ⟨W,ab⟩:∃ y,n[i]? = some y:=⟨_,AU AB⟩
  have aC:=Ai ab; have aw:=AV ab
  obtain ⟨_,rfl,ah⟩:=h1.elem i W ab
  refine .lh 5 0 ah id<|GA.cat (i:=6) (t:=9) (s:=(out++[44])) (u:=W.key) AA AA (by grind)<|GA.cat (i:=7) (t:=9) (s:=((out++[44])++W.key)) (u:=[61]) AA AA (by grind)<|.r [8,9] ?_
  have ar:i< n.length:=AB
  refine .ix 10 i 2 h1 ar<|.r [11]<|.lh 12 1 ah id<|.d fun aG ai=>?_
  replace ⟨h1,E,C⟩:=(se [] ai).g3 h1 E C
  exact RG.cat (t:=9) (s:=(((out++[44])++W.key)++[61])) (u:=W.val) AA (by grind)<|.r 1<|.d<|.ib 1<|.g<|.r 1<|.it ((i:Int)+1)<|.r 1<|.d<|J (((((out++[44])++W.key)++[61])++W.val),i+1) _ _ ⟨AA,AA,AA,trivial⟩ ⟨C,AB,(by grind),(by grind [Fj,KC])⟩ (by (simp only []; omega))
 refine .d<|.cf<|.sk<|.gd nil 13 fun aH aj=>?_
 replace ⟨h1,E,C⟩:=(se [] aj).g3 h1 E C
 refine .r [0,1,2] ?_
 have au:i< n.length:=AB
 refine .ix 3 i 2 h1 au<|.r [4] ?_
 obtain ⟨aa,ac⟩:∃ y,n[i]? = some y:=⟨_,AU AB⟩
 have aD:=Ai ac; have ax:=AV ac
 obtain ⟨_,rfl,ak⟩:=h1.elem i aa ac
 refine .lh 5 0 ak id<|GA.cat (i:=6) (t:=9) (s:=out) (u:=aa.key) AA AA (by grind)<|GA.cat (i:=7) (t:=9) (s:=(out++aa.key)) (u:=[61]) AA AA (by grind)<|.r [8,9] ?_
 have av:i< n.length:=AB
 refine .ix 10 i 2 h1 av<|.r [11]<|.lh 12 1 ak id<|.d fun aI al=>?_
 replace ⟨E,C⟩:=(se [] al).g2 E C
 exact RG.cat (t:=9) (s:=((out++aa.key)++[61])) (u:=aa.val) AA (by grind)<|.r 1<|.d<|.ib 1<|.g<|.r 1<|.it ((i:Int)+1)<|.r 1<|.d<|J ((((out++aa.key)++[61])++aa.val),i+1) _ _ ⟨AA,AA,AA,trivial⟩ ⟨C,AB,(by grind),(by grind [Fj,KC])⟩ (by (simp only []; omega))
end Go.Proofs.YtggnnidleedpaaaGreat
